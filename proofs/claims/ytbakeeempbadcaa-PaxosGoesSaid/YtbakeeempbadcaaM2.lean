/- Paxos in plain words: what a script does. -/
import Derived.Test.YtbakeeempbadcaaM1
namespace Go.Proofs.Ytbakeeempbadcaa
set_option linter.unusedVariables false

/-- the ways of a step -/
theorem step_ways {n : Nat} (P : Int × St → Prop) (s : St) (t : Tr)
    (same : ∀ c, c ≠ 0 → P (c, s))
    (beg : 1 ≤ t.ballot → t.ballot ≤ 1000 → t.kind = 1 → getM s.bs t.ballot = none → P (0, { s with bs := s.bs ++ [(t.ballot, newB t.val)] }))
    (ask : ∀ i v b, t.kind = 2 → t.who = (i : Nat) → s.vs[i]? = some v → getM s.bs t.ballot = some b → v.pm < t.ballot → P (0, { s with vs := s.vs.set i { v with pm := t.ballot }, bs := putM s.bs t.ballot (if b.fx then b else askB s.vs.length t.ballot b v), fl := if b.fx then s.fl else askF s.vs.length t.ballot b v s.fl }))
    (tak : ∀ i v b, t.kind = 3 → t.who = (i : Nat) → s.vs[i]? = some v → getM s.bs t.ballot = some b → v.pm ≤ t.ballot → b.fx = true → P (0, { s with vs := s.vs.set i ⟨t.ballot, b.bn, b.bv⟩, bs := putM s.bs t.ballot (takeB b i), ch := takeF s.vs.length b i s.ch })) : P (stepS s t) := by
  unfold stepS
  split
  · exact same _ (by decide)
  split
  · exact same _ (by decide)
  cases hg : getM s.bs t.ballot with
  | none =>
    simp only []
    split
    · exact beg (by omega) (by omega) (by assumption) hg
    · exact same _ (by decide)
  | some b =>
    simp only []
    split
    · exact same _ (by decide)
    split
    · exact same _ (by decide)
    obtain ⟨i, hi⟩ := Int.eq_ofNat_of_zero_le (show 0 ≤ t.who by omega)
    have hti : t.who.toNat = i := by omega
    rw [hti]
    cases hv : s.vs[i]? with
    | none => exact same _ (by decide)
    | some v =>
      simp only []
      split
      · rename_i h2
        unfold askS
        by_cases hk : t.ballot ≤ v.pm
        · rw [if_pos hk]
          simp only []
          rw [putM_self hg, show s.vs.set i v = s.vs from by
            refine List.ext_getElem? fun k => ?_
            rw [List.getElem?_set]
            by_cases e : i = k
            · subst e; rw [if_pos rfl, if_pos (List.getElem?_eq_some_iff.1 hv).1, hv]
            · rw [if_neg e]]
          exact same _ (by decide)
        · rw [if_neg hk]
          have := ask i v b h2 hi hv hg (by omega)
          by_cases hf : b.fx = true
          · rw [if_pos hf] at this ⊢
            rw [if_pos hf] at this
            exact this
          · rw [if_neg hf] at this ⊢
            rw [if_neg hf] at this
            exact this
      · unfold takeS
        by_cases hk : b.fx = false ∨ t.ballot < v.pm
        · rw [if_pos hk]
          simp only []
          rw [putM_self hg, show s.vs.set i v = s.vs from by
            refine List.ext_getElem? fun k => ?_
            rw [List.getElem?_set]
            by_cases e : i = k
            · subst e; rw [if_pos rfl, if_pos (List.getElem?_eq_some_iff.1 hv).1, hv]
            · rw [if_neg e]]
          exact same _ (by decide)
        · rw [if_neg hk]
          have hfx : b.fx = true := by cases h : b.fx; exact absurd (.inl h) hk; rfl
          rw [hi]
          exact tak i v b (by omega) hi hv hg (by omega) hfx

theorem Inv.step {n : Nat} {s : St} (I : Inv n s) (t : Tr) : Inv n (stepS s t).2 := by
  refine step_ways (n := n) (fun r => Inv n r.2) s t (fun _ _ => I) (fun h1 _ _ hn => I.begin_ h1 hn) (fun i v b _ _ hi hb hk => ?_) (fun i v b _ _ hi hb hk hf => ?_)
  · refine I.ask hi hk hb ?_
    rw [I.vl]
    by_cases hf : b.fx = true
    · rw [if_pos hf, if_pos hf]; exact .inl ⟨hf, rfl, rfl⟩
    · have hf' : b.fx = false := by simpa using hf
      rw [if_neg hf, if_neg hf]
      unfold askF askB
      by_cases hm : n < 2 * (b.pr + 1)
      · rw [if_pos hm, if_pos hm]
        exact .inr (.inr ⟨hf', hm, ⟨b.own, rfl⟩, rfl⟩)
      · rw [if_neg hm, if_neg hm]
        exact .inr (.inl ⟨hf', rfl, rfl⟩)
  · have := I.take hi hk hb hf
    rw [I.vl]; exact this

theorem Inv.run {n : Nat} : ∀ (l : List Tr) {s : St}, Inv n s → Inv n (runS s l).1
  | [], _, h => h
  | t :: l, s, h => Inv.run l (h.step t)

/-- what only grows -/
structure Mono (s s' : St) : Prop where
  fl : s.fl <+: s'.fl
  ch : s.ch <+: s'.ch
  vs : ∀ (i : Nat) (v : Vt), s.vs[i]? = some v → ∃ v' : Vt, s'.vs[i]? = some v' ∧ v.pm ≤ v'.pm ∧ v.tn ≤ v'.tn
  bs : ∀ (k : Int) (b : Bl), getM s.bs k = some b → ∃ b' : Bl, getM s'.bs k = some b' ∧ b'.own = b.own ∧ (b.fx = true → b'.fx = true ∧ b'.bv = b.bv)

theorem Mono.refl (s : St) : Mono s s := ⟨List.prefix_refl _, List.prefix_refl _, fun i v h => ⟨v, h, Int.le_refl _, Int.le_refl _⟩, fun k b h => ⟨b, h, rfl, fun h => ⟨h, rfl⟩⟩⟩
theorem Mono.trans {a b c : St} (h : Mono a b) (h' : Mono b c) : Mono a c :=
  ⟨h.fl.trans h'.fl, h.ch.trans h'.ch, fun i v hv => by
    obtain ⟨v1, a1, a2, a3⟩ := h.vs i v hv
    obtain ⟨v2, b1, b2, b3⟩ := h'.vs i v1 a1
    exact ⟨v2, b1, by omega, by omega⟩, fun k x hx => by
    obtain ⟨b1, a1, a2, a3⟩ := h.bs k x hx
    obtain ⟨b2, d1, d2, d3⟩ := h'.bs k b1 a1
    refine ⟨b2, d1, d2.trans a2, fun hf => ?_⟩
    obtain ⟨e1, e2⟩ := a3 hf
    obtain ⟨e3, e4⟩ := d3 e1
    exact ⟨e3, e4.trans e2⟩⟩

theorem Mono.step {n : Nat} {s : St} (I : Inv n s) (t : Tr) : Mono s (stepS s t).2 := by
  refine step_ways (n := n) (fun r => Mono s r.2) s t (fun _ _ => Mono.refl s) (fun h1 _ _ hn => ?_) (fun i v b _ _ hi hb hk => ?_) (fun i v b _ _ hi hb hk hf => ?_)
  · refine ⟨List.prefix_refl _, List.prefix_refl _, fun i v h => ⟨v, h, Int.le_refl _, Int.le_refl _⟩, fun k b h => ⟨b, ?_, rfl, fun h => ⟨h, rfl⟩⟩⟩
    rw [← putM_none hn, getM_put, if_neg (fun e => by rw [e, h] at hn; cases hn)]
    exact h
  · have hlt := (List.getElem?_eq_some_iff.1 hi).1
    refine ⟨?_, List.prefix_refl _, fun i' u hu => ?_, fun k c hc => ?_⟩
    · show s.fl <+: (if b.fx then s.fl else askF s.vs.length t.ballot b v s.fl)
      split
      · exact List.prefix_refl _
      · unfold askF; split
        · exact List.prefix_append _ _
        · exact List.prefix_refl _
    · by_cases e : i = i'
      · subst e
        rw [hi] at hu; cases hu
        exact ⟨_, List.getElem?_set_self hlt, by show v.pm ≤ t.ballot; omega, Int.le_refl _⟩
      · exact ⟨u, by rw [← hu]; exact List.getElem?_set_ne e, Int.le_refl _, Int.le_refl _⟩
    · show ∃ b', getM (putM s.bs t.ballot _) k = some b' ∧ _
      rw [getM_put]
      by_cases e : t.ballot = k
      · rw [if_pos e]
        rw [← e, hb] at hc; cases hc
        refine ⟨_, rfl, ?_, fun hf => ?_⟩
        · split
          · rfl
          · obtain ⟨_, _, t3, _⟩ := best1_tk b v
            unfold askB; split <;> exact t3
        · rw [if_pos hf]; exact ⟨hf, rfl⟩
      · rw [if_neg e]; exact ⟨c, hc, rfl, fun h => ⟨h, rfl⟩⟩
  · have hlt := (List.getElem?_eq_some_iff.1 hi).1
    obtain ⟨hv1, _, _⟩ := I.vt i v hi
    obtain ⟨hbn, _⟩ := I.fx _ b hb hf
    refine ⟨List.prefix_refl _, ?_, fun i' u hu => ?_, fun k c hc => ?_⟩
    · show s.ch <+: takeF s.vs.length b i s.ch
      unfold takeF; split
      · exact List.prefix_append _ _
      · exact List.prefix_refl _
    · by_cases e : i = i'
      · subst e
        rw [hi] at hu; cases hu
        exact ⟨_, List.getElem?_set_self hlt, hk, by show v.tn ≤ b.bn; omega⟩
      · exact ⟨u, by rw [← hu]; exact List.getElem?_set_ne e, Int.le_refl _, Int.le_refl _⟩
    · show ∃ b', getM (putM s.bs t.ballot _) k = some b' ∧ _
      rw [getM_put]
      by_cases e : t.ballot = k
      · rw [if_pos e]
        rw [← e, hb] at hc; cases hc
        exact ⟨_, rfl, rfl, fun hf => ⟨hf, rfl⟩⟩
      · rw [if_neg e]; exact ⟨c, hc, rfl, fun h => ⟨h, rfl⟩⟩

theorem Mono.run {n : Nat} : ∀ (l : List Tr) {s : St}, Inv n s → Mono s (runS s l).1
  | [], s, _ => Mono.refl s
  | t :: l, s, I => (Mono.step I t).trans (Mono.run l (I.step t))

theorem runS_append (a b : List Tr) : ∀ s, runS s (a ++ b) = ((runS (runS s a).1 b).1, (runS s a).2 ++ (runS (runS s a).1 b).2) := by
  induction a with
  | nil => intro s; simp [runS]
  | cons x a ih => intro s; simp only [List.cons_append, runS, ih]

/-- the values with which ballots began -/
def Begun (xs : List Tr) (cs : List Int) (x : Int) : Prop := ∃ (i : Nat) (t : Tr), xs[i]? = some t ∧ t.kind = 1 ∧ cs[i]? = some 0 ∧ t.val = x
theorem begun_run {n : Nat} : ∀ (l : List Tr), (∀ k b, getM (runS (s0 n) l).1.bs k = some b → Begun l (runS (s0 n) l).2 b.own) ∧ ∀ p ∈ (runS (s0 n) l).1.fl, Begun l (runS (s0 n) l).2 p.2 := by
  intro l
  induction hl : l.length generalizing l with
  | zero =>
    obtain rfl := List.eq_nil_of_length_eq_zero hl
    exact ⟨fun k b h => by simp [runS, s0, getM] at h, fun p hp => by simp [runS, s0] at hp⟩
  | succ m ih =>
    obtain ⟨l', t, rfl⟩ : ∃ l' t, l = l' ++ [t] := ⟨l.dropLast, l.getLast (by intro e; rw [e] at hl; cases hl), (List.dropLast_concat_getLast _).symm⟩
    have I := Inv.run l' (Inv.start n)
    obtain ⟨h1, h2⟩ := ih l' (by simp at hl; exact hl)
    have hlen := runS_len l' (s0 n)
    rw [runS_snoc]
    generalize (runS (s0 n) l').2 = cs at *
    generalize (runS (s0 n) l').1 = s at *
    have up : ∀ c x, Begun l' cs x → Begun (l' ++ [t]) (cs ++ [c]) x := fun c x ⟨i, u, e1, e2, e3, e4⟩ =>
      ⟨i, u, by rw [List.getElem?_append_left (List.getElem?_eq_some_iff.1 e1).1]; exact e1, e2, by rw [List.getElem?_append_left (List.getElem?_eq_some_iff.1 e3).1]; exact e3, e4⟩
    refine step_ways (n := n) (fun r => (∀ k b, getM r.2.bs k = some b → Begun (l' ++ [t]) (cs ++ [r.1]) b.own) ∧ ∀ p ∈ r.2.fl, Begun (l' ++ [t]) (cs ++ [r.1]) p.2) s t (fun c _ => ⟨fun k b h => up c _ (h1 k b h), fun p hp => up c _ (h2 p hp)⟩) (fun _ _ hk hn => ⟨fun k b h => ?_, fun p hp => up _ _ (h2 p hp)⟩) (fun i v b _ _ hi hb hk => ⟨fun k c h => ?_, fun p hp => ?_⟩) (fun i v b _ _ hi hb hk hf => ⟨fun k c h => ?_, fun p hp => up _ _ (h2 p hp)⟩)
    · have h : getM (s.bs ++ [(t.ballot, newB t.val)]) k = some b := h
      rw [← putM_none hn, getM_put] at h
      split at h
      · cases h
        exact ⟨l'.length, t, by simp, hk, by rw [← hlen]; simp, rfl⟩
      · exact up _ _ (h1 k b h)
    · have h : getM (putM s.bs t.ballot _) k = some c := h
      rw [getM_put] at h
      split at h
      · cases h
        have : (if b.fx = true then b else askB s.vs.length t.ballot b v).own = b.own := by
          split
          · rfl
          · obtain ⟨_, _, t3, _⟩ := best1_tk b v
            unfold askB; split <;> exact t3
        rw [this]
        exact up _ _ (h1 _ b hb)
      · exact up _ _ (h1 k c h)
    · have hp : p ∈ (if b.fx then s.fl else askF s.vs.length t.ballot b v s.fl) := hp
      split at hp
      · exact up _ _ (h2 p hp)
      · rename_i hf
        unfold askF at hp
        split at hp
        · rename_i hm
          rcases List.mem_append.1 hp with hp | hp
          · exact up _ _ (h2 p hp)
          · simp at hp; subst hp
            show Begun _ _ (askB s.vs.length t.ballot b v).bv
            unfold askB
            rw [if_pos hm]
            show Begun _ _ (if (best1 b v).bn = 0 then b.own else (best1 b v).bv)
            by_cases hz : (best1 b v).bn = 0
            · rw [if_pos hz]; exact up _ _ (h1 _ b hb)
            · rw [if_neg hz]
              unfold best1 at hz ⊢
              by_cases hlt : b.bn < v.tn
              · rw [if_pos hlt] at hz ⊢
                rcases (I.vt i v hi).2.2 with h0 | h0
                · exact absurd h0.1 hz
                · exact up _ _ (h2 _ h0)
              · rw [if_neg hlt] at hz ⊢
                rcases (I.nf _ b hb (by simpa using hf)).2 with h0 | h0
                · exact absurd h0 hz
                · exact up _ _ (h2 _ h0.1)
        · exact up _ _ (h2 p hp)
    · have h : getM (putM s.bs t.ballot _) k = some c := h
      rw [getM_put] at h
      split at h
      · cases h
        exact up _ _ (h1 _ b hb)
      · exact up _ _ (h1 k c h)

end Go.Proofs.Ytbakeeempbadcaa
