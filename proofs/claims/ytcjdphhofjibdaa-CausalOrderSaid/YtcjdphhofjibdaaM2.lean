/- What is sent; what all hear. Plain words. No condition. -/
import Derived.Test.YtcjdphhofjibdaaM1
namespace Go.Proofs.Ytcjdphhofjibdaa
open Go.RowKit
set_option linter.unusedVariables false
set_option linter.unusedSimpArgs false
set_option maxRecDepth 100000

def sndB (c : Mv) (k : Int) : Bool := decide (c.kind = 1 ∧ k = 0)
/-- the steps that send, among the first -/
def sndL (cs : List Mv) (ks : List Int) : Nat → List Nat
  | 0 => []
  | i + 1 => sndL cs ks i ++ match cs[i]?, ks[i]? with
    | some c, some k => if sndB c k then [i] else []
    | _, _ => []
theorem sndL_succ {cs : List Mv} {ks : List Int} {i : Nat} {c : Mv} {k : Int} (h1 : cs[i]? = some c) (h2 : ks[i]? = some k) : sndL cs ks (i + 1) = sndL cs ks i ++ if sndB c k then [i] else [] := by
  simp only [sndL, h1, h2]
theorem sndL_le (cs : List Mv) (ks : List Int) : ∀ i, (sndL cs ks i).length ≤ i
  | 0 => Nat.le_refl _
  | i + 1 => by
    have := sndL_le cs ks i
    simp only [sndL, List.length_append]
    split
    · split <;> simp <;> omega
    · simp; omega
theorem codes_at : ∀ {cs : List Mv} {s : CS} {i : Nat} {c : Mv}, cs[i]? = some c → (codesC s cs)[i]? = some (stepC (stC s (cs.take i)) c).1
  | [], s, i, c, h => by simp at h
  | a :: l, s, 0, c, h => by simp at h; subst h; simp [codesC, stC]
  | a :: l, s, i + 1, c, h => by
    have := codes_at (cs := l) (s := (stepC s a).2) (i := i) (c := c) (by simpa using h)
    simp only [codesC, List.getElem?_cons_succ, List.take_succ_cons, stC]; exact this
/-- what a step adds to the messages -/
theorem step_all {n : Nat} {s : CS} (hI : InvC n s) (c : Mv) : (c.kind = 1 ∧ (stepC s c).1 = 0 ∧ ∃ (w : Nat) (p : Pt), c.who = (w : Int) ∧ w < n ∧ s.ps[w]? = some p ∧ (stepC s c).2.all = s.all ++ [⟨w, p.cnt⟩]) ∨ (¬ (c.kind = 1 ∧ (stepC s c).1 = 0) ∧ (stepC s c).2.all = s.all) := by
  by_cases hk : c.kind = 1
  · by_cases hw : isN s.ps.length c.who = false
    · right
      have : stepC s c = (2, s) := by unfold stepC; rw [if_neg (by omega), if_pos hw]
      rw [this]; exact ⟨fun h => by have := h.2; simp at this, rfl⟩
    · left
      obtain ⟨h0, h1⟩ := isN_false hw
      obtain ⟨p, hp⟩ := get_of_lt h1
      have : stepC s c = (0, ⟨s.all ++ [⟨c.who.toNat, p.cnt⟩], s.ps.set c.who.toNat (hear (s.all ++ [⟨c.who.toNat, p.cnt⟩]) p s.all.length)⟩) := by
        unfold stepC; rw [if_neg (by omega), if_neg hw, hp]; dsimp only; rw [if_pos hk]
      rw [this]
      exact ⟨hk, rfl, c.who.toNat, p, by omega, by rw [← hI.len]; exact h1, hp, rfl⟩
  · right
    refine ⟨fun h => hk h.1, ?_⟩
    unfold stepC
    repeat' split
    all_goals first | rfl | contradiction
theorem snd_yes {n : Nat} {s : CS} {c : Mv} (hI : InvC n s) : sndB c (stepC s c).1 = true ↔ (stepC s c).2.all ≠ s.all := by
  unfold sndB
  rw [decide_eq_true_eq]
  rcases step_all hI c with ⟨h1, h2, w, p, _, _, _, h⟩ | ⟨h1, h2⟩
  · rw [h]; exact ⟨fun _ e => by have := congrArg List.length e; simp at this, fun _ => ⟨h1, h2⟩⟩
  · rw [h2]; exact ⟨fun h => absurd h h1, fun h => absurd rfl h⟩
structure SentI (n : Nat) (cs : List Mv) (i m k : Nat) : Prop where
  lt : k < i
  at_ : ∃ (x : Mv) (w : Nat) (p : Pt), cs[k]? = some x ∧ x.who = (w : Int) ∧ w < n ∧ (stC (cs0 n) (cs.take k)).ps[w]? = some p ∧ (stC (cs0 n) (cs.take k)).all.length = m ∧ (stC (cs0 n) (cs.take i)).all[m]? = some ⟨w, p.cnt⟩
theorem sent_inv {n : Nat} {cs : List Mv} : ∀ i, i ≤ cs.length → (sndL cs (codesC (cs0 n) cs) i).length = (stC (cs0 n) (cs.take i)).all.length ∧ ∀ m k, (sndL cs (codesC (cs0 n) cs) i)[m]? = some k → SentI n cs i m k
  | 0, _ => ⟨by simp [sndL, stC, cs0], fun m k h => by simp [sndL] at h⟩
  | i + 1, h => by
    obtain ⟨ih1, ih2⟩ := sent_inv (n := n) (cs := cs) i (by omega)
    obtain ⟨c, hc⟩ := get_of_lt (xs := cs) (k := i) (by omega)
    have hI : InvC n (stC (cs0 n) (cs.take i)) := (InvC.zero n).run _
    have hst := stC_snoc (s := cs0 n) hc
    have hpre : (stC (cs0 n) (cs.take i)).all <+: (stC (cs0 n) (cs.take (i + 1))).all := by rw [hst]; exact (LeC.step _ c).1
    have old : ∀ m k, (sndL cs (codesC (cs0 n) cs) i)[m]? = some k → SentI n cs (i + 1) m k := fun m k hk => by
      obtain ⟨h1, x, w, p, h2, h3, h4, h5, h6, h7⟩ := ih2 m k hk
      refine ⟨by omega, x, w, p, h2, h3, h4, h5, h6, ?_⟩
      obtain ⟨t, ht⟩ := hpre
      rw [← ht, List.getElem?_append_left (List.getElem?_eq_some_iff.1 h7).1]; exact h7
    rw [sndL_succ hc (codes_at hc)]
    rcases step_all hI c with ⟨h1, h2, w, p, h3, h4, h5, h6⟩ | ⟨h1, h2⟩
    · rw [show sndB c (stepC (stC (cs0 n) (cs.take i)) c).1 = true from decide_eq_true ⟨h1, h2⟩, if_pos rfl]
      refine ⟨by rw [hst, h6, List.length_append, List.length_append, ih1]; rfl, fun m k hk => ?_⟩
      rcases snoc_at.1 hk with ⟨q1, q2⟩ | ⟨q1, q2⟩
      · exact old m k q2
      · subst q2; subst q1
        refine ⟨Nat.lt_succ_self _, c, w, p, hc, h3, h4, h5, ih1.symm, ?_⟩
        rw [hst, h6, ih1]; simp
    · rw [show sndB c (stepC (stC (cs0 n) (cs.take i)) c).1 = false from decide_eq_false h1, if_neg (by decide), List.append_nil]
      exact ⟨by rw [hst, h2]; exact ih1, old⟩
theorem lstC_of {s : CS} {i : Nat} {p : Pt} (h : s.ps[i]? = some p) : lstC s i = p.lst := by unfold lstC; rw [h]; rfl
theorem InvC.lst {n i : Nat} {s : CS} (h : InvC n s) : (lstC s i).Nodup ∧ ∀ m ∈ lstC s i, m < s.all.length := by
  unfold lstC
  cases e : s.ps[i]? with
  | none => exact ⟨List.nodup_nil, fun m hm => by cases hm⟩
  | some p =>
    obtain ⟨hR, _⟩ := h.row i p e
    exact ⟨(List.nodup_append.1 hR.nd).1, hR.lin⟩
theorem nodup_pos {l : List Nat} {i j x : Nat} (hn : l.Nodup) (hi : l[i]? = some x) (hj : l[j]? = some x) : i = j := by
  obtain ⟨h1, h2⟩ := List.getElem?_eq_some_iff.1 hi
  obtain ⟨h3, h4⟩ := List.getElem?_eq_some_iff.1 hj
  exact (List.getElem_inj hn).1 (by rw [h2, h4])
/-- own messages stand in the order in which they were sent -/
theorem InvC.own_lt {n w m m' k k' : Nat} {s : CS} {p : Pt} {a b : Ms} (h : InvC n s) (hp : s.ps[w]? = some p) (ha : s.all[m]? = some a) (hb : s.all[m']? = some b) (haw : a.frm = w) (hbw : b.frm = w) (hl : m < m') (hk : p.lst[k]? = some m) (hk' : p.lst[k']? = some m') : k < k' := by
  obtain ⟨hR, _⟩ := h.row w p hp
  have h1 := (h.ms m' b hb).2.2.1
  rw [hbw] at h1
  have h2 := hR.ord k' m' b m a hk' hb ha (by rw [haw, h1]; exact ix_lt ha haw hl)
  obtain ⟨j, hj⟩ := List.getElem?_of_mem h2
  rw [List.getElem?_take] at hj
  split at hj
  · have := nodup_pos (List.nodup_append.1 hR.nd).1 hj hk; omega
  · cases hj
/-- what its sender had heard stands ahead -/
theorem InvC.before {n w i k c : Nat} {s t : CS} {q : Pt} {p : Pt} (ht : InvC n t) (hs : InvC n s) (hpre : s.all <+: t.all) (hp : s.ps[w]? = some p) (hm : t.all[s.all.length]? = some ⟨w, p.cnt⟩) (hq : t.ps[i]? = some q) (hk : q.lst[k]? = some s.all.length) (hc : c ∈ p.lst) : ∃ j, j < k ∧ q.lst[j]? = some c := by
  obtain ⟨hR, _⟩ := hs.row w p hp
  obtain ⟨hQ, _⟩ := ht.row i q hq
  have hcl := hR.lin c hc
  obtain ⟨b, hb⟩ := get_of_lt hcl
  have h1 := (hR.pre c b hb).1 hc
  obtain ⟨l, hl⟩ := hpre
  have hb2 : t.all[c]? = some b := by rw [← hl, List.getElem?_append_left hcl]; exact hb
  have h2 : ix t.all b.frm c = ix s.all b.frm c := by rw [← hl]; exact ix_app (by omega)
  have h3 := hQ.ord k _ _ c b hk hm hb2 (by rw [h2]; exact h1)
  obtain ⟨j, hj⟩ := List.getElem?_of_mem h3
  rw [List.getElem?_take] at hj
  split at hj
  · exact ⟨j, by assumption, hj⟩
  · cases hj
/-! when all have come -/
def cameC (s : CS) (i m : Nat) : Prop := ∃ p a, s.ps[i]? = some p ∧ s.all[m]? = some a ∧ (a.frm = i ∨ 0 < cmN p m)
theorem cameC.grow {s : CS} {all : List Ms} {ps : List Pt} {i m : Nat} (h : cameC s i m) (ha : s.all <+: all) (hp : ∀ p, s.ps[i]? = some p → ∃ q, ps[i]? = some q ∧ (0 < cmN p m → 0 < cmN q m)) : cameC ⟨all, ps⟩ i m := by
  obtain ⟨p, a, h1, h2, h3⟩ := h
  obtain ⟨q, h4, h5⟩ := hp p h1
  obtain ⟨l, rfl⟩ := ha
  exact ⟨q, a, h4, by dsimp only; rw [List.getElem?_append_left (List.getElem?_eq_some_iff.1 h2).1]; exact h2, h3.imp id h5⟩
theorem set_come {ps : List Pt} {i j : Nat} {p q : Pt} {m : Nat} (hp : ps[j]? = some p) (hq : 0 < cmN p m → 0 < cmN q m) : ∀ z, ps[i]? = some z → ∃ y, (ps.set j q)[i]? = some y ∧ (0 < cmN z m → 0 < cmN y m) := fun z hz => by
  rw [List.getElem?_set]
  by_cases e : j = i
  · subst e; rw [if_pos rfl, if_pos (List.getElem?_eq_some_iff.1 hp).1]
    rw [hp] at hz; cases hz; exact ⟨q, rfl, hq⟩
  · rw [if_neg e]; exact ⟨z, hz, fun h => h⟩
theorem cmN_cm {p q : Pt} (h : q.cm = p.cm) (m : Nat) : cmN q m = cmN p m := by unfold cmN; rw [h]
theorem hear_cm (all : List Ms) (p : Pt) (m : Nat) : (hear all p m).cm = p.cm := by unfold hear; split <;> rfl
theorem cameC.step {s : CS} {i m : Nat} (h : cameC s i m) (x : Mv) : cameC (stepC s x).2 i m := by
  unfold stepC
  split
  · exact h
  split
  · exact h
  split
  · exact h
  rename_i p hp
  split
  · exact h.grow (List.prefix_append ..) (set_come hp fun h => by rw [cmN_cm (hear_cm ..)]; exact h)
  split
  · exact h
  split
  · exact h
  split
  · exact h
  split
  · exact h.grow (List.prefix_refl _) (set_come hp fun h => by rw [cmN_put]; split; omega; exact h)
  · exact h.grow (List.prefix_refl _) (set_come hp fun h => by
      rw [cmN_cm (show (settle s.all ⟨p.lst, p.cnt, putM p.cm x.msg.toNat (cmN p x.msg.toNat + 1), ins p.wts x.msg.toNat⟩).cm = _ from stl_cm ..)]
      exact (cmN_put (p := p) (l := p.lst) (c := p.cnt) (w := ins p.wts x.msg.toNat) (m := x.msg.toNat) (x := cmN p x.msg.toNat + 1) (m' := m)).symm ▸ (by split; omega; exact h))
theorem cameC.run {i m : Nat} : ∀ (cs : List Mv) {s : CS}, cameC s i m → cameC (stC s cs) i m
  | [], _, h => h
  | c :: l, _, h => cameC.run l (h.step c)
abbrev mv (i m : Nat) : Mv := ⟨2, (i : Int), (m : Int)⟩
theorem take_step {n i m : Nat} {s : CS} (hI : InvC n s) (hi : i < n) (hm : m < s.all.length) : cameC (stepC s (mv i m)).2 i m ∧ (stepC s (mv i m)).2.all = s.all := by
  obtain ⟨p, hp⟩ := get_of_lt (xs := s.ps) (k := i) (by rw [hI.len]; exact hi)
  obtain ⟨a, ha⟩ := get_of_lt hm
  have hpl := (List.getElem?_eq_some_iff.1 hp).1
  have e : stepC s (mv i m) = if a.frm = i then (2, s) else if 0 < cmN p m then (6, ⟨s.all, s.ps.set i ⟨p.lst, p.cnt, putM p.cm m (cmN p m + 1), p.wts⟩⟩) else (0, ⟨s.all, s.ps.set i (settle s.all ⟨p.lst, p.cnt, putM p.cm m (cmN p m + 1), ins p.wts m⟩)⟩) := by
    unfold stepC mv; dsimp only
    rw [if_neg (by omega), if_neg (show ¬ isN s.ps.length (i : Int) = false by rw [show isN s.ps.length (i : Int) = true from decide_eq_true (by omega)]; decide), Int.toNat_natCast, hp]; dsimp only
    rw [if_neg (by decide), if_neg (show ¬ isN s.all.length (m : Int) = false by rw [show isN s.all.length (m : Int) = true from decide_eq_true (by omega)]; decide), Int.toNat_natCast, ha]
  rw [e]
  split
  · rename_i hf; exact ⟨⟨p, a, hp, ha, .inl hf⟩, rfl⟩
  · split
    · exact ⟨⟨_, a, List.getElem?_set_self hpl, ha, .inr (by rw [cmN_put, if_pos rfl]; omega)⟩, rfl⟩
    · exact ⟨⟨_, a, List.getElem?_set_self hpl, ha, .inr (by
        rw [cmN_cm (show (settle s.all ⟨p.lst, p.cnt, putM p.cm m (cmN p m + 1), ins p.wts m⟩).cm = _ from stl_cm ..)]
        exact (cmN_put (p := p) (l := p.lst) (c := p.cnt) (w := ins p.wts m) (m := m) (x := cmN p m + 1) (m' := m)).symm ▸ (by rw [if_pos rfl]; omega))⟩, rfl⟩
/-- the message m comes to each of the first -/
def rowA (m : Nat) : Nat → List Mv
  | 0 => []
  | i + 1 => rowA m i ++ [mv i m]
/-- all messages, the last one first, come to all -/
def colA (n many : Nat) : Nat → List Mv
  | 0 => []
  | c + 1 => colA n many c ++ rowA (many - 1 - c) n
theorem rowA_len (m : Nat) : ∀ i, (rowA m i).length = i
  | 0 => rfl
  | i + 1 => by simp [rowA, rowA_len m i]
theorem colA_len (n many : Nat) : ∀ c, (colA n many c).length = n * c
  | 0 => by simp [colA]
  | c + 1 => by simp [colA, colA_len n many c, rowA_len, Nat.mul_succ]
theorem row_run {n m : Nat} {s : CS} (hI : InvC n s) (hm : m < s.all.length) : ∀ i, i ≤ n → (stC s (rowA m i)).all = s.all ∧ ∀ j, j < i → cameC (stC s (rowA m i)) j m
  | 0, _ => ⟨rfl, fun j h => by omega⟩
  | i + 1, h => by
    obtain ⟨h1, h2⟩ := row_run hI hm i (by omega)
    have hI2 : InvC n (stC s (rowA m i)) := hI.run _
    obtain ⟨h3, h4⟩ := take_step hI2 (show i < n by omega) (by rw [h1]; exact hm)
    rw [rowA, stC_app]
    refine ⟨h4.trans h1, fun j hj => ?_⟩
    rcases Nat.lt_or_eq_of_le (Nat.le_of_lt_succ hj) with c | rfl
    · exact (h2 j c).step _
    · exact h3
theorem col_run {n : Nat} {s : CS} (hI : InvC n s) : ∀ c, c ≤ s.all.length → (stC s (colA n s.all.length c)).all = s.all ∧ ∀ m j, s.all.length - c ≤ m → m < s.all.length → j < n → cameC (stC s (colA n s.all.length c)) j m
  | 0, _ => ⟨rfl, fun m j h1 h2 h => by omega⟩
  | c + 1, h => by
    obtain ⟨h1, h2⟩ := col_run hI c (by omega)
    have hI2 : InvC n (stC s (colA n s.all.length c)) := hI.run _
    obtain ⟨h3, h4⟩ := row_run hI2 (m := s.all.length - 1 - c) (by rw [h1]; omega) n (Nat.le_refl _)
    rw [colA, stC_app]
    refine ⟨h3.trans h1, fun m j q1 q2 q3 => ?_⟩
    by_cases e : m = s.all.length - 1 - c
    · subst e; exact h4 j q3
    · exact (h2 m j (by omega) q2 q3).run _
theorem InvC.full {n i : Nat} {s : CS} {p : Pt} (h : InvC n s) (hp : s.ps[i]? = some p) (hc : ∀ m, m < s.all.length → cameC s i m) : ∀ m, m < s.all.length → m ∈ p.lst := fun m => by
  obtain ⟨hR, hS⟩ := h.row i p hp
  induction m using Nat.strongRecOn with
  | _ m ih =>
    intro hm
    obtain ⟨p', a, h1, ha, h3⟩ := hc m hm
    rw [hp] at h1; cases h1
    by_cases hf : a.frm = i
    · exact hR.own m a ha hf
    · rcases (hR.come m a ha hf).1 (h3.resolve_left hf) with q | q
      · exact q
      · exfalso
        have h0 := hS m q
        have : rdy s.all p.cnt m = true := (rdy_iff ha).2 fun j hj => by
          have h4 := (h.ms m a ha).2.2.2 j
          rcases Nat.eq_zero_or_pos (a.need.getD j 0) with z | z
          · omega
          · obtain ⟨c, b, g1, g2, g3, g4⟩ := ix_has (all := s.all) (j := j) (m := m) (k := a.need.getD j 0 - 1) (by omega) (by omega)
            have g5 := (hR.pre c b g2).1 (ih c g1 (by omega))
            rw [g3, g4] at g5; omega
        rw [this] at h0; cases h0
theorem nodup_len : ∀ {k : Nat} {l : List Nat}, l.Nodup → (∀ x ∈ l, x < k) → l.length ≤ k
  | 0, [], _, _ => Nat.le_refl _
  | 0, x :: l, _, h => by have := h x (by simp); omega
  | k + 1, l, hn, h => by
    have h1 : (l.erase k).length ≤ k := nodup_len (hn.erase k) fun x hx => by
      have h2 := h x (List.mem_of_mem_erase hx)
      have h3 : x ≠ k := ((List.Nodup.mem_erase_iff hn).1 hx).1
      omega
    have := List.length_erase (a := k) (l := l)
    split at this <;> omega
theorem nodup_full : ∀ {k : Nat} {l : List Nat}, l.Nodup → (∀ x ∈ l, x < k) → (∀ x, x < k → x ∈ l) → l.length = k
  | 0, [], _, _, _ => rfl
  | 0, x :: l, _, h, _ => by have := h x (by simp); omega
  | k + 1, l, hn, h, hf => by
    have h1 : (l.erase k).length = k := nodup_full (hn.erase k) (fun x hx => by
      have h2 := h x (List.mem_of_mem_erase hx)
      have h3 : x ≠ k := ((List.Nodup.mem_erase_iff hn).1 hx).1
      omega) fun x hx => (List.Nodup.mem_erase_iff hn).2 ⟨by omega, hf x (by omega)⟩
    have := List.length_erase (a := k) (l := l)
    have h2 := List.length_pos_of_mem (hf k (by omega))
    rw [if_pos (hf k (by omega))] at this
    omega
theorem all_run {n : Nat} {cs : List Mv} (i : Nat) (hi : i < n) : ∀ many, many = (stC (cs0 n) cs).all.length → (lstC (stC (cs0 n) (cs ++ colA n many many)) i).length = many := fun many hm => by
  subst hm
  have hI : InvC n (stC (cs0 n) cs) := (InvC.zero n).run cs
  obtain ⟨h1, h2⟩ := col_run hI (stC (cs0 n) cs).all.length (Nat.le_refl _)
  rw [stC_app]
  have hI2 : InvC n (stC (stC (cs0 n) cs) (colA n (stC (cs0 n) cs).all.length (stC (cs0 n) cs).all.length)) := hI.run _
  obtain ⟨p, hp⟩ := get_of_lt (xs := (stC (stC (cs0 n) cs) (colA n (stC (cs0 n) cs).all.length (stC (cs0 n) cs).all.length)).ps) (k := i) (by rw [hI2.len]; exact hi)
  have hl := hI2.lst (i := i)
  rw [lstC_of hp] at hl ⊢
  rw [h1] at hl
  exact nodup_full hl.1 hl.2 fun x hx => by
    have := hI2.full hp (fun m hm => by rw [h1] at hm; exact h2 m i (by omega) hm hi) x
    rw [h1] at this; exact this hx
end Go.Proofs.Ytcjdphhofjibdaa
