/- Paxos in plain words: what is chosen has one value. -/
import Derived.Test.YtbakeeempbadcaaA5
namespace Go.Proofs.Ytbakeeempbadcaa
set_option linter.unusedVariables false

theorem nodup_le : ∀ (n : Nat) (l : List Nat), l.Nodup → (∀ x ∈ l, x < n) → l.length ≤ n
  | 0, l, _, h => by
    cases l with
    | nil => simp
    | cons x l => have := h x (by simp); omega
  | n + 1, l, hn, h => by
    by_cases hm : n ∈ l
    · have h1 := nodup_le n (l.erase n) (hn.erase n) (fun x hx => by
        have h2 := h x (List.mem_of_mem_erase hx)
        have h3 : x ≠ n := fun e => by subst e; exact (List.Nodup.not_mem_erase hn) hx
        omega)
      rw [List.length_erase_of_mem hm] at h1
      omega
    · have := nodup_le n l hn (fun x hx => by
        have h2 := h x hx
        have h3 : x ≠ n := fun e => hm (e ▸ hx)
        omega)
      omega

theorem meet {n : Nat} {Q K : List Nat} (hq : Q.Nodup) (hk : K.Nodup) (h1 : ∀ x ∈ Q, x < n) (h2 : ∀ x ∈ K, x < n) (hl : n < Q.length + K.length) : ∃ x, x ∈ Q ∧ x ∈ K := by
  by_cases h : ∃ x, x ∈ Q ∧ x ∈ K
  · exact h
  · exfalso
    have hnd : (Q ++ K).Nodup := List.nodup_append.2 ⟨hq, hk, fun x hx y hy e => h ⟨x, hx, e ▸ hy⟩⟩
    have := nodup_le n (Q ++ K) hnd (fun x hx => by
      rcases List.mem_append.1 hx with hx | hx
      · exact h1 x hx
      · exact h2 x hx)
    simp at this
    omega

structure Inv (n : Nat) (s : St) : Prop where
  vl : s.vs.length = n
  key : ∀ (k : Int) (b : Bl), getM s.bs k = some b → 1 ≤ k
  vt : ∀ (i : Nat) (v : Vt), s.vs[i]? = some v → v.tn ≤ v.pm ∧ 0 ≤ v.pm ∧ ((v.tn = 0 ∧ v.tv = 0) ∨ (v.tn, v.tv) ∈ s.fl)
  fl : ∀ p ∈ s.fl, ∃ b : Bl, getM s.bs p.1 = some b ∧ b.fx = true ∧ b.bv = p.2
  fx : ∀ (k : Int) (b : Bl), getM s.bs k = some b → b.fx = true → b.bn = k ∧ (k, b.bv) ∈ s.fl
  tk : ∀ (k : Int) (b : Bl), getM s.bs k = some b → b.tk.Pairwise (fun p q => p.1 ≠ q.1) ∧ ∀ p ∈ b.tk, ∃ (i : Nat) (v : Vt), p.1 = i ∧ s.vs[i]? = some v ∧ k ≤ v.tn
  nf : ∀ (k : Int) (b : Bl), getM s.bs k = some b → b.fx = false → b.tk = [] ∧ (b.bn = 0 ∨ (b.bn, b.bv) ∈ s.fl ∧ b.bn < k)
  q : ∀ (k : Int) (b : Bl), getM s.bs k = some b → ∃ (Q : List Nat) (m : Int), Q.Nodup ∧ (∀ i ∈ Q, ∃ v : Vt, s.vs[i]? = some v ∧ k ≤ v.pm ∧ ∀ (j : Int) (c : Bl), getM s.bs j = some c → j < k → (∃ p ∈ c.tk, p.1 = (i : Int)) → j ≤ m) ∧
    (b.fx = false → Q.length = b.pr ∧ m = b.bn) ∧ (b.fx = true → n < 2 * Q.length ∧ (m ≤ 0 ∨ (m, b.bv) ∈ s.fl ∧ m < k))
  ch : ∀ p ∈ s.ch, p ∈ s.fl ∧ ∃ b : Bl, getM s.bs p.1 = some b ∧ n < 2 * b.tk.length

theorem Inv.start (n : Nat) : Inv n (s0 n) := by
  refine ⟨by simp [s0], fun k b h => by simp [s0, getM] at h, fun i v h => ?_, fun p hp => by simp [s0] at hp, fun k b h => by simp [s0, getM] at h, fun k b h => by simp [s0, getM] at h, fun k b h => by simp [s0, getM] at h, fun k b h => by simp [s0, getM] at h, fun p hp => by simp [s0] at hp⟩
  simp only [s0, List.getElem?_replicate] at h
  split at h
  · cases h; exact ⟨by simp [v0], by simp [v0], .inl ⟨rfl, rfl⟩⟩
  · cases h

theorem Inv.flkey {n : Nat} {s : St} (I : Inv n s) {p : Int × Int} (h : p ∈ s.fl) : 1 ≤ p.1 := by
  obtain ⟨b, hb, _⟩ := I.fl p h
  exact I.key _ _ hb

theorem getSet {vs : List Vt} {i : Nat} {v' : Vt} {i' : Nat} {u : Vt} (h : (vs.set i v')[i']? = some u) : (i = i' ∧ u = v' ∧ i < vs.length) ∨ (i ≠ i' ∧ vs[i']? = some u) := by
  rw [List.getElem?_set] at h
  split at h
  · rename_i e
    split at h
    · cases h; exact .inl ⟨e, rfl, by assumption⟩
    · cases h
  · exact .inr ⟨by assumption, h⟩

/-- a voter that promises more; the ballots as they are, or one more fixed -/
theorem Inv.begin_ {n : Nat} {s : St} (I : Inv n s) {k val : Int} (hk : 1 ≤ k) (hn : getM s.bs k = none) : Inv n { s with bs := s.bs ++ [(k, newB val)] } := by
  have hg : ∀ k', getM (s.bs ++ [(k, newB val)]) k' = if k = k' then some (newB val) else getM s.bs k' := fun k' => by rw [← putM_none hn]; exact getM_put _ _ _ _
  have old : ∀ k' b, getM s.bs k' = some b → k ≠ k' := fun k' b h e => by subst e; rw [hn] at h; cases h
  have up : ∀ k' b, getM s.bs k' = some b → getM (s.bs ++ [(k, newB val)]) k' = some b := fun k' b h => by rw [hg, if_neg (old k' b h)]; exact h
  have cases_ : ∀ k' b, getM (s.bs ++ [(k, newB val)]) k' = some b → (k' = k ∧ b = newB val) ∨ getM s.bs k' = some b := fun k' b h => by
    rw [hg] at h
    split at h
    · rename_i e; cases h; exact .inl ⟨e.symm, rfl⟩
    · exact .inr h
  refine ⟨I.vl, fun k' b h => ?_, I.vt, fun p hp => ?_, fun k' b h hf => ?_, fun k' b h => ?_, fun k' b h hf => ?_, fun k' b h => ?_, fun p hp => ?_⟩
  · rcases cases_ k' b h with ⟨rfl, _⟩ | h
    · exact hk
    · exact I.key k' b h
  · obtain ⟨b, h1, h2⟩ := I.fl p hp
    exact ⟨b, up _ _ h1, h2⟩
  · rcases cases_ k' b h with ⟨rfl, rfl⟩ | h
    · cases hf
    · exact I.fx k' b h hf
  · rcases cases_ k' b h with ⟨rfl, rfl⟩ | h
    · exact ⟨by simp [newB], fun p hp => by simp [newB] at hp⟩
    · exact I.tk k' b h
  · rcases cases_ k' b h with ⟨rfl, rfl⟩ | h
    · exact ⟨rfl, .inl rfl⟩
    · exact I.nf k' b h hf
  · rcases cases_ k' b h with ⟨rfl, rfl⟩ | h
    · exact ⟨[], 0, List.nodup_nil, fun i hi => by simp at hi, fun _ => ⟨rfl, rfl⟩, fun h => by cases h⟩
    · obtain ⟨Q, m, q1, q2, q3, q4⟩ := I.q k' b h
      refine ⟨Q, m, q1, fun i hi => ?_, q3, q4⟩
      obtain ⟨v, h1, h2, h3⟩ := q2 i hi
      refine ⟨v, h1, h2, fun j c hc hj hp => ?_⟩
      rcases cases_ j c hc with ⟨rfl, rfl⟩ | hc
      · obtain ⟨p, hp, _⟩ := hp; simp [newB] at hp
      · exact h3 j c hc hj hp
  · obtain ⟨h1, b, h2, h3⟩ := I.ch p hp
    exact ⟨h1, b, up _ _ h2, h3⟩

theorem best1_tk (b : Bl) (v : Vt) : (best1 b v).tk = b.tk ∧ (best1 b v).fx = b.fx ∧ (best1 b v).own = b.own ∧ (best1 b v).pr = b.pr := by unfold best1; split <;> exact ⟨rfl, rfl, rfl, rfl⟩

/-- a ballot that is asked for by a voter, whose promise is new; what becomes of it: b' -/
theorem Inv.ask {n : Nat} {s : St} (I : Inv n s) {i : Nat} {v : Vt} {k : Int} {b b' : Bl} {fl' : List (Int × Int)} (hi : s.vs[i]? = some v) (hk : v.pm < k) (hb : getM s.bs k = some b)
    (h : (b.fx = true ∧ b' = b ∧ fl' = s.fl) ∨ (b.fx = false ∧ b' = { best1 b v with pr := b.pr + 1 } ∧ fl' = s.fl) ∨
      (b.fx = false ∧ n < 2 * (b.pr + 1) ∧ (∃ own, b' = { best1 b v with pr := b.pr + 1, fx := true, bv := if (best1 b v).bn = 0 then own else (best1 b v).bv, bn := k }) ∧ fl' = s.fl ++ [(k, b'.bv)])) :
    Inv n { s with vs := s.vs.set i { v with pm := k }, bs := putM s.bs k b', fl := fl' } := by
  have hg : ∀ k', getM (putM s.bs k b') k' = if k = k' then some b' else getM s.bs k' := fun k' => getM_put _ _ _ _
  obtain ⟨t1, t2, t3, t4⟩ := best1_tk b v
  have htk : b'.tk = b.tk := by
    rcases h with ⟨_, rfl, _⟩ | ⟨_, rfl, _⟩ | ⟨_, _, ⟨own, rfl⟩, _⟩
    · rfl
    · exact t1
    · exact t1
  have hsub : ∀ p, p ∈ s.fl → p ∈ fl' := fun p hp => by
    rcases h with ⟨_, _, rfl⟩ | ⟨_, _, rfl⟩ | ⟨_, _, _, rfl⟩
    · exact hp
    · exact hp
    · exact List.mem_append_left _ hp
  obtain ⟨hv1, hv0, hv2⟩ := I.vt i v hi
  -- what the best is
  have hbest : b.fx = false → b.bn ≤ (best1 b v).bn ∧ v.tn ≤ (best1 b v).bn ∧ ((best1 b v).bn = 0 ∨ ((best1 b v).bn, (best1 b v).bv) ∈ s.fl ∧ (best1 b v).bn < k) := fun hf => by
    obtain ⟨_, hn⟩ := I.nf k b hb hf
    have hb0 : 0 ≤ b.bn := by
      rcases hn with hn | ⟨hn, _⟩
      · omega
      · have := I.flkey hn; simp only at this; omega
    unfold best1
    by_cases hlt : b.bn < v.tn
    · rw [if_pos hlt]
      refine ⟨by show b.bn ≤ v.tn; omega, by show v.tn ≤ v.tn; omega, ?_⟩
      rcases hv2 with ⟨h0, _⟩ | hv2
      · omega
      · exact .inr ⟨hv2, by show v.tn < k; omega⟩
    · rw [if_neg hlt]
      exact ⟨Int.le_refl _, by omega, hn⟩
  have old : ∀ k' c, k ≠ k' → getM (putM s.bs k b') k' = some c → getM s.bs k' = some c := fun k' c hne hc => by rw [hg, if_neg hne] at hc; exact hc
  have cs : ∀ k' c, getM (putM s.bs k b') k' = some c → (k' = k ∧ c = b') ∨ (k ≠ k' ∧ getM s.bs k' = some c) := fun k' c hc => by
    by_cases e : k = k'
    · subst e; rw [hg, if_pos rfl] at hc; cases hc; exact .inl ⟨rfl, rfl⟩
    · exact .inr ⟨e, old k' c e hc⟩
  have took : ∀ j c, getM (putM s.bs k b') j = some c → ∃ c0, getM s.bs j = some c0 ∧ c.tk = c0.tk := fun j c hc => by
    rcases cs j c hc with ⟨rfl, rfl⟩ | ⟨_, hc⟩
    · exact ⟨b, hb, htk⟩
    · exact ⟨c, hc, rfl⟩
  have vts : ∀ (i' : Nat) (u : Vt), s.vs[i']? = some u → ∃ u' : Vt, (s.vs.set i { v with pm := k })[i']? = some u' ∧ u'.tn = u.tn ∧ u.pm ≤ u'.pm := fun i' u hu => by
    by_cases e : i = i'
    · subst e
      rw [hi] at hu; cases hu
      have := (List.getElem?_eq_some_iff.1 hi).1
      exact ⟨_, List.getElem?_set_self this, rfl, by show v.pm ≤ k; omega⟩
    · exact ⟨u, by rw [List.getElem?_set_ne e]; exact hu, rfl, Int.le_refl _⟩
  refine ⟨by simpa using I.vl, fun k' c hc => ?_, fun i' u hu => ?_, fun p hp => ?_, fun k' c hc hf => ?_, fun k' c hc => ?_, fun k' c hc hf => ?_, fun k' c hc => ?_, fun p hp => ?_⟩
  · rcases cs k' c hc with ⟨rfl, _⟩ | ⟨_, hc⟩
    · exact I.key k' b hb
    · exact I.key k' c hc
  · rcases getSet hu with ⟨_, rfl, _⟩ | ⟨_, hu⟩
    · refine ⟨by show v.tn ≤ k; omega, by show 0 ≤ k; omega, ?_⟩
      rcases hv2 with hv2 | hv2
      · exact .inl hv2
      · exact .inr (hsub _ hv2)
    · obtain ⟨a1, a2, a3⟩ := I.vt i' u hu
      refine ⟨a1, a2, ?_⟩
      rcases a3 with a3 | a3
      · exact .inl a3
      · exact .inr (hsub _ a3)
  · have hold : p ∈ s.fl → ∃ c, getM (putM s.bs k b') p.1 = some c ∧ c.fx = true ∧ c.bv = p.2 := fun hp => by
      obtain ⟨c, h1, h2, h3⟩ := I.fl p hp
      by_cases e : k = p.1
      · have hcb : c = b := by rw [← e, hb] at h1; cases h1; rfl
        subst hcb
        rcases h with ⟨_, rfl, _⟩ | ⟨hf, _⟩ | ⟨hf, _⟩
        · exact ⟨b', by rw [hg, if_pos e], h2, h3⟩
        · rw [hf] at h2; cases h2
        · rw [hf] at h2; cases h2
      · exact ⟨c, by rw [hg, if_neg e]; exact h1, h2, h3⟩
    rcases h with ⟨_, _, rfl⟩ | ⟨_, _, rfl⟩ | ⟨_, _, ⟨own, hb'⟩, rfl⟩
    · exact hold hp
    · exact hold hp
    · rcases List.mem_append.1 hp with hp | hp
      · exact hold hp
      · simp at hp; subst hp
        exact ⟨b', by rw [hg, if_pos rfl], by rw [hb'], rfl⟩
  · rcases cs k' c hc with ⟨rfl, rfl⟩ | ⟨_, hc⟩
    · rcases h with ⟨hf', rfl, rfl⟩ | ⟨hf', rfl, rfl⟩ | ⟨_, _, ⟨own, hb'⟩, rfl⟩
      · exact I.fx k' c hb hf'
      · rw [show ({ best1 b v with pr := b.pr + 1 } : Bl).fx = (best1 b v).fx from rfl, t2, hf'] at hf; cases hf
      · exact ⟨by rw [hb'], by simp⟩
    · obtain ⟨a1, a2⟩ := I.fx k' c hc hf
      exact ⟨a1, hsub _ a2⟩
  · obtain ⟨c0, hc0, htk0⟩ := took k' c hc
    obtain ⟨a1, a2⟩ := I.tk k' c0 hc0
    rw [htk0]
    refine ⟨a1, fun p hp => ?_⟩
    obtain ⟨i', u, e1, e2, e3⟩ := a2 p hp
    obtain ⟨u', d1, d2, d3⟩ := vts i' u e2
    exact ⟨i', u', e1, d1, by omega⟩
  · rcases cs k' c hc with ⟨rfl, rfl⟩ | ⟨_, hc⟩
    · rcases h with ⟨hf', rfl, rfl⟩ | ⟨hf', rfl, rfl⟩ | ⟨_, _, ⟨own, hb'⟩, rfl⟩
      · rw [hf'] at hf; cases hf
      · obtain ⟨q1, q2, q3⟩ := hbest hf'
        exact ⟨by rw [htk]; exact (I.nf k' b hb hf').1, q3⟩
      · rw [hb'] at hf; cases hf
    · obtain ⟨a1, a2⟩ := I.nf k' c hc hf
      refine ⟨a1, ?_⟩
      rcases a2 with a2 | ⟨a2, a3⟩
      · exact .inl a2
      · exact .inr ⟨hsub _ a2, a3⟩
  · -- the promises
    have keep : ∀ (Q : List Nat) (m : Int) (k' : Int), (∀ i ∈ Q, ∃ v : Vt, s.vs[i]? = some v ∧ k' ≤ v.pm ∧ ∀ (j : Int) (c : Bl), getM s.bs j = some c → j < k' → (∃ p ∈ c.tk, p.1 = (i : Int)) → j ≤ m) →
        ∀ i' ∈ Q, ∃ u : Vt, (s.vs.set i { v with pm := k })[i']? = some u ∧ k' ≤ u.pm ∧ ∀ (j : Int) (c : Bl), getM (putM s.bs k b') j = some c → j < k' → (∃ p ∈ c.tk, p.1 = (i' : Int)) → j ≤ m := fun Q m k' hq i' hi' => by
      obtain ⟨u, h1, h2, h3⟩ := hq i' hi'
      obtain ⟨u', d1, d2, d3⟩ := vts i' u h1
      refine ⟨u', d1, by omega, fun j c hc hj hp => ?_⟩
      obtain ⟨c0, hc0, htk0⟩ := took j c hc
      rw [htk0] at hp
      exact h3 j c0 hc0 hj hp
    rcases cs k' c hc with ⟨rfl, rfl⟩ | ⟨_, hc⟩
    · obtain ⟨Q, m, q1, q2, q3, q4⟩ := I.q k' b hb
      rcases h with ⟨hf', rfl, rfl⟩ | h
      · exact ⟨Q, m, q1, keep Q m k' q2, q3, q4⟩
      · have hf' : b.fx = false := by rcases h with h | h <;> exact h.1
        obtain ⟨q5, q6⟩ := q3 hf'
        obtain ⟨p1, p2, p3⟩ := hbest hf'
        have hnew : i ∉ Q := fun hm => by
          obtain ⟨u, h1, h2, _⟩ := q2 i hm
          rw [hi] at h1; cases h1; omega
        have hall : ∀ i' ∈ i :: Q, ∃ u : Vt, (s.vs.set i { v with pm := k' })[i']? = some u ∧ k' ≤ u.pm ∧ ∀ (j : Int) (c0 : Bl), getM (putM s.bs k' c) j = some c0 → j < k' → (∃ p ∈ c0.tk, p.1 = (i' : Int)) → j ≤ (best1 b v).bn := fun i' hi' => by
          rcases List.mem_cons.1 hi' with rfl | hi'
          · have hlt := (List.getElem?_eq_some_iff.1 hi).1
            refine ⟨_, List.getElem?_set_self hlt, Int.le_refl _, fun j c0 hc0 hj hp => ?_⟩
            obtain ⟨c1, hc1, htk1⟩ := took j c0 hc0
            rw [htk1] at hp
            obtain ⟨p, hp, hpe⟩ := hp
            obtain ⟨i2, u, e1, e2, e3⟩ := (I.tk j c1 hc1).2 p hp
            obtain rfl : i' = i2 := by omega
            rw [hi] at e2; cases e2; omega
          · obtain ⟨u, h1, h2, h3⟩ := keep Q m k' q2 i' hi'
            exact ⟨u, h1, h2, fun j c0 hc0 hj hp => by have := h3 j c0 hc0 hj hp; omega⟩
        refine ⟨i :: Q, (best1 b v).bn, List.nodup_cons.2 ⟨hnew, q1⟩, hall, fun hcf => ?_, fun hcf => ?_⟩
        · rcases h with ⟨_, rfl, _⟩ | ⟨_, _, ⟨own, hb'⟩, _⟩
          · exact ⟨by simp [q5], rfl⟩
          · rw [hb'] at hcf; cases hcf
        · rcases h with ⟨_, rfl, _⟩ | ⟨_, hmaj, ⟨own, hb'⟩, hfl'⟩
          · rw [show ({ best1 b v with pr := b.pr + 1 } : Bl).fx = (best1 b v).fx from rfl, t2, hf'] at hcf; cases hcf
          · refine ⟨by simp [q5]; omega, ?_⟩
            rcases p3 with p3 | ⟨p3, p4⟩
            · exact .inl (by omega)
            · have h0 := I.flkey p3
              simp only at h0
              refine .inr ⟨hsub _ ?_, p4⟩
              rw [show c.bv = (best1 b v).bv by rw [hb']; exact if_neg (by omega)]
              exact p3
    · obtain ⟨Q, m, q1, q2, q3, q4⟩ := I.q k' c hc
      refine ⟨Q, m, q1, keep Q m k' q2, q3, fun hf => ?_⟩
      obtain ⟨a1, a2⟩ := q4 hf
      refine ⟨a1, ?_⟩
      rcases a2 with a2 | ⟨a2, a3⟩
      · exact .inl a2
      · exact .inr ⟨hsub _ a2, a3⟩
  · obtain ⟨h1, c, h2, h3⟩ := I.ch p hp
    refine ⟨hsub _ h1, ?_⟩
    by_cases e : k = p.1
    · refine ⟨b', by rw [hg, if_pos e], ?_⟩
      rw [← e, hb] at h2; cases h2
      rw [htk]; exact h3
    · exact ⟨c, by rw [hg, if_neg e]; exact h2, h3⟩

theorem putM_self {α β : Type} [DecidableEq α] {l : List (α × β)} {a : α} {x : β} (h : getM l a = some x) : putM l a x = l := by
  induction l with
  | nil => cases h
  | cons p l ih =>
    obtain ⟨c, y⟩ := p
    by_cases e : c = a
    · subst e; simp [getM] at h; subst h; simp [putM]
    · simp [getM, e] at h; simp [putM, e, ih h]

theorem mem_putM_old {α β : Type} [DecidableEq α] {l : List (α × β)} {a : α} {x : β} {p : α × β} (hp : p ∈ l) : ∃ q ∈ putM l a x, q.1 = p.1 := by
  have h := putM_keys l a x
  have hm : p.1 ∈ l.map (·.1) := List.mem_map.2 ⟨p, hp, rfl⟩
  have : p.1 ∈ (putM l a x).map (·.1) := by rw [h]; split; exact hm; exact List.mem_append_left _ hm
  obtain ⟨q, h1, h2⟩ := List.mem_map.1 this
  exact ⟨q, h1, h2⟩

/-- a voter takes what is fixed -/
theorem Inv.take {n : Nat} {s : St} (I : Inv n s) {i : Nat} {v : Vt} {k : Int} {b : Bl} (hi : s.vs[i]? = some v) (hk : v.pm ≤ k) (hb : getM s.bs k = some b) (hf : b.fx = true) :
    Inv n { s with vs := s.vs.set i ⟨k, b.bn, b.bv⟩, bs := putM s.bs k (takeB b i), ch := takeF n b i s.ch } := by
  have hg : ∀ k', getM (putM s.bs k (takeB b i)) k' = if k = k' then some (takeB b i) else getM s.bs k' := fun k' => getM_put _ _ _ _
  obtain ⟨hbn, hbf⟩ := I.fx k b hb hf
  obtain ⟨hv1, hv0, hv2⟩ := I.vt i v hi
  have hilt := (List.getElem?_eq_some_iff.1 hi).1
  have hk1 := I.key k b hb
  have cs : ∀ k' c, getM (putM s.bs k (takeB b i)) k' = some c → (k' = k ∧ c = takeB b i) ∨ (k ≠ k' ∧ getM s.bs k' = some c) := fun k' c hc => by
    by_cases e : k = k'
    · subst e; rw [hg, if_pos rfl] at hc; cases hc; exact .inl ⟨rfl, rfl⟩
    · rw [hg, if_neg e] at hc; exact .inr ⟨e, hc⟩
  have vts : ∀ (i' : Nat) (u : Vt), s.vs[i']? = some u → ∃ u' : Vt, (s.vs.set i ⟨k, b.bn, b.bv⟩)[i']? = some u' ∧ u.tn ≤ u'.tn ∧ u.pm ≤ u'.pm := fun i' u hu => by
    by_cases e : i = i'
    · subst e
      rw [hi] at hu; cases hu
      exact ⟨_, List.getElem?_set_self hilt, by show v.tn ≤ b.bn; omega, hk⟩
    · exact ⟨u, by rw [List.getElem?_set_ne e]; exact hu, Int.le_refl _, Int.le_refl _⟩
  have hlen : b.tk.length ≤ (putM b.tk (i : Int) 1).length := by rw [putM_length]; split <;> omega
  refine ⟨by simpa using I.vl, fun k' c hc => ?_, fun i' u hu => ?_, fun p hp => ?_, fun k' c hc hcf => ?_, fun k' c hc => ?_, fun k' c hc hcf => ?_, fun k' c hc => ?_, fun p hp => ?_⟩
  · rcases cs k' c hc with ⟨rfl, _⟩ | ⟨_, hc⟩
    · exact hk1
    · exact I.key k' c hc
  · rcases getSet hu with ⟨_, rfl, _⟩ | ⟨_, hu⟩
    · exact ⟨by show b.bn ≤ k; omega, by show 0 ≤ k; omega, .inr (by show (b.bn, b.bv) ∈ s.fl; rw [hbn]; exact hbf)⟩
    · exact I.vt i' u hu
  · obtain ⟨c, h1, h2, h3⟩ := I.fl p hp
    by_cases e : k = p.1
    · rw [← e, hb] at h1; cases h1
      exact ⟨takeB b i, by rw [hg, if_pos e], h2, h3⟩
    · exact ⟨c, by rw [hg, if_neg e]; exact h1, h2, h3⟩
  · rcases cs k' c hc with ⟨rfl, rfl⟩ | ⟨_, hc⟩
    · exact ⟨hbn, hbf⟩
    · exact I.fx k' c hc hcf
  · rcases cs k' c hc with ⟨rfl, rfl⟩ | ⟨_, hc⟩
    · obtain ⟨a1, a2⟩ := I.tk k' b hb
      refine ⟨putM_nodup _ _ a1, fun p hp => ?_⟩
      rcases mem_putM hp with rfl | ⟨hp, _⟩
      · exact ⟨i, _, rfl, List.getElem?_set_self hilt, by show k' ≤ b.bn; omega⟩
      · obtain ⟨i', u, e1, e2, e3⟩ := a2 p hp
        obtain ⟨u', d1, d2, d3⟩ := vts i' u e2
        exact ⟨i', u', e1, d1, by omega⟩
    · obtain ⟨a1, a2⟩ := I.tk k' c hc
      refine ⟨a1, fun p hp => ?_⟩
      obtain ⟨i', u, e1, e2, e3⟩ := a2 p hp
      obtain ⟨u', d1, d2, d3⟩ := vts i' u e2
      exact ⟨i', u', e1, d1, by omega⟩
  · rcases cs k' c hc with ⟨rfl, rfl⟩ | ⟨_, hc⟩
    · rw [show (takeB b i).fx = b.fx from rfl, hf] at hcf; cases hcf
    · exact I.nf k' c hc hcf
  · have keep : ∀ (Q : List Nat) (m : Int) (k' : Int), (∀ i ∈ Q, ∃ v : Vt, s.vs[i]? = some v ∧ k' ≤ v.pm ∧ ∀ (j : Int) (c : Bl), getM s.bs j = some c → j < k' → (∃ p ∈ c.tk, p.1 = (i : Int)) → j ≤ m) →
        ∀ i' ∈ Q, ∃ u : Vt, (s.vs.set i ⟨k, b.bn, b.bv⟩)[i']? = some u ∧ k' ≤ u.pm ∧ ∀ (j : Int) (c : Bl), getM (putM s.bs k (takeB b i)) j = some c → j < k' → (∃ p ∈ c.tk, p.1 = (i' : Int)) → j ≤ m := fun Q m k' hq i' hi' => by
      obtain ⟨u, h1, h2, h3⟩ := hq i' hi'
      obtain ⟨u', d1, d2, d3⟩ := vts i' u h1
      refine ⟨u', d1, by omega, fun j c hc hj hp => ?_⟩
      rcases cs j c hc with ⟨rfl, rfl⟩ | ⟨_, hc⟩
      · obtain ⟨p, hp, hpe⟩ := hp
        rcases mem_putM hp with rfl | ⟨hp, _⟩
        · have : i = i' := by simp only at hpe; omega
          subst this
          rw [hi] at h1; cases h1; omega
        · exact h3 j b hb hj ⟨p, hp, hpe⟩
      · exact h3 j c hc hj hp
    rcases cs k' c hc with ⟨rfl, rfl⟩ | ⟨_, hc⟩
    · obtain ⟨Q, m, q1, q2, q3, q4⟩ := I.q k' b hb
      exact ⟨Q, m, q1, keep Q m k' q2, q3, q4⟩
    · obtain ⟨Q, m, q1, q2, q3, q4⟩ := I.q k' c hc
      exact ⟨Q, m, q1, keep Q m k' q2, q3, q4⟩
  · have hold : p ∈ s.ch → p ∈ s.fl ∧ ∃ c, getM (putM s.bs k (takeB b i)) p.1 = some c ∧ n < 2 * c.tk.length := fun hp => by
      obtain ⟨h1, c, h2, h3⟩ := I.ch p hp
      refine ⟨h1, ?_⟩
      by_cases e : k = p.1
      · rw [← e, hb] at h2; cases h2
        exact ⟨takeB b i, by rw [hg, if_pos e], by show n < 2 * (putM b.tk (i : Int) 1).length; omega⟩
      · exact ⟨c, by rw [hg, if_neg e]; exact h2, h3⟩
    have hp : p ∈ takeF n b i s.ch := hp
    unfold takeF at hp
    split at hp
    · rename_i hc
      rcases List.mem_append.1 hp with hp | hp
      · exact hold hp
      · simp at hp; subst hp
        exact ⟨by rw [hbn]; exact hbf, takeB b i, by rw [hg, if_pos hbn.symm], hc.1⟩
    · exact hold hp

/-- WHAT IS FIXED ABOVE WHAT IS CHOSEN HAS ITS VALUE. -/
theorem Inv.agree {n : Nat} {s : St} (I : Inv n s) {j : Int} {c : Bl} (hc : getM s.bs j = some c) (hcf : c.fx = true) (hm : n < 2 * c.tk.length) :
    ∀ (d : Nat) (k : Int) (b : Bl), (k - j).toNat ≤ d → j < k → getM s.bs k = some b → b.fx = true → b.bv = c.bv := by
  intro d
  induction d with
  | zero => intro k b hd hj; omega
  | succ d ih =>
    intro k b hd hj hb hf
    obtain ⟨Q, m, q1, q2, _, q4⟩ := I.q k b hb
    obtain ⟨q5, q6⟩ := q4 hf
    obtain ⟨t1, t2⟩ := I.tk j c hc
    have hlt : ∀ (i : Nat) (v : Vt), s.vs[i]? = some v → i < n := fun i v h => by have := (List.getElem?_eq_some_iff.1 h).1; have := I.vl; omega
    have hK : ∀ p ∈ c.tk, ∃ i : Nat, p.1 = i ∧ i < n := fun p hp => by
      obtain ⟨i, v, e1, e2, _⟩ := t2 p hp
      exact ⟨i, e1, hlt i v e2⟩
    obtain ⟨x, hx1, hx2⟩ := meet (n := n) (Q := Q) (K := c.tk.map fun p => p.1.toNat) q1 (by
      rw [List.nodup_iff_pairwise_ne, List.pairwise_map]
      refine List.Pairwise.imp_of_mem (fun {p q} hp hq hne e => hne ?_) t1
      obtain ⟨i1, e1, _⟩ := hK p hp
      obtain ⟨i2, e2, _⟩ := hK q hq
      omega) (fun x hx => by obtain ⟨v, h1, _⟩ := q2 x hx; exact hlt x v h1) (fun x hx => by
      obtain ⟨p, hp, rfl⟩ := List.mem_map.1 hx
      obtain ⟨i, e, hi⟩ := hK p hp
      omega) (by simp; omega)
    obtain ⟨v, h1, h2, h3⟩ := q2 x hx1
    obtain ⟨p, hp, hpx⟩ := List.mem_map.1 hx2
    obtain ⟨i0, e0, _⟩ := hK p hp
    have hjm := h3 j c hc hj ⟨p, hp, by omega⟩
    have hj1 := I.key j c hc
    rcases q6 with q6 | ⟨q6, q7⟩
    · omega
    · obtain ⟨b', g1, g2, g3⟩ := I.fl _ q6
      simp only at g1 g3
      by_cases e : m = j
      · subst e
        rw [hc] at g1; cases g1; exact g3.symm
      · rw [← g3]
        exact ih m b' (by omega) (by omega) g1 g2

end Go.Proofs.Ytbakeeempbadcaa
