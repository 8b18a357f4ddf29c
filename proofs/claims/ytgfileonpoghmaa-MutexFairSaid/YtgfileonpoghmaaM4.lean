/- Who asks ahead goes in ahead. In plain words. No condition. -/
import Derived.Test.YtgfileonpoghmaaM3
namespace Go.Proofs.Ytgfileonpoghmaa
open Go.RowKit
set_option linter.unusedVariables false
set_option linter.unusedSimpArgs false
set_option maxRecDepth 100000

theorem enter_cases (t : MS) (w : Nat) : enterM t w = t ∨ ∃ p, t.ps[w]? = some p ∧ p.how = 1 ∧ enterM t w = { t with ps := t.ps.set w { p with how := 2 }, ins := t.ins ++ [w] } := by
  unfold enterM
  split
  · rename_i p hp
    split
    · rename_i hc; exact .inr ⟨p, hp, hc.1, rfl⟩
    · exact .inl rfl
  · exact .inl rfl
def Ahead (i j : Nat) (s : MS) : Prop := ∃ p r, s.ps[i]? = some p ∧ s.ps[j]? = some r ∧ p.how = 1 ∧ p.key ≤ r.n ∧ (r.how = 0 ∨ (p.key < r.key ∧ nz (Q s j i) + p.waits.count j ≠ 0))
def Goes (i j : Nat) (s t : MS) : Prop := (Ahead i j t ∧ (t.ins = s.ins ∨ ∃ w, w ≠ j ∧ t.ins = s.ins ++ [w])) ∨ t.ins = s.ins ++ [i]
theorem set_get {l : List Pq} {i : Nat} {p p' : Pq} (h : l[i]? = some p) : (l.set i p')[i]? = some p' := List.getElem?_set_self (List.getElem?_eq_some_iff.1 h).1
theorem Ahead.enter {n i j w : Nat} {t : MS} (hij : i ≠ j) (h : Ahead i j t) (hi : InvM n (enterM t w)) : Goes i j t (enterM t w) := by
  rcases enter_cases t w with e | ⟨q, hq, hq1, e⟩
  · rw [e]; exact .inl ⟨h, .inl rfl⟩
  · rw [e] at hi ⊢
    by_cases h1 : w = i
    · subst h1; exact .inr rfl
    · obtain ⟨p, r, hp, hr, a1, a2, a3⟩ := h
      have hp' : (t.ps.set w { q with how := 2 })[i]? = some p := by rw [List.getElem?_set_ne h1]; exact hp
      by_cases h2 : w = j
      · subst h2
        exfalso
        cases hq.symm.trans hr
        have := (hi.pair w i _ p (Ne.symm hij) (set_get hq) hp').none (show (2 : Nat) ≠ 1 by decide)
        have a3 := (a3.resolve_left (by omega)).2
        have this : nz (Q t w i) + zz (Q t i w) + p.waits.count w = 0 := this
        omega
      · refine .inl ⟨⟨p, r, hp', by dsimp only; rw [List.getElem?_set_ne h2]; exact hr, a1, a2, a3⟩, .inr ⟨w, h2, rfl⟩⟩
theorem Goes.of {i j : Nat} {s t u : MS} (h : Goes i j t u) (e : t.ins = s.ins) : Goes i j s u := by
  unfold Goes at *; rwa [e] at h
theorem Ahead.other {i j w : Nat} {s : MS} {q : Wy} {p' : Pq} (h : Ahead i j s) (h1 : w ≠ i) (h2 : w ≠ j) (hq : q (smN j, smN i) = Q s j i) : Ahead i j { s with q := q, ps := s.ps.set w p' } := by
  obtain ⟨p, r, hp, hr, a1, a2, a3⟩ := h
  refine ⟨p, r, by dsimp only; rw [List.getElem?_set_ne h1]; exact hp, by dsimp only; rw [List.getElem?_set_ne h2]; exact hr, a1, a2, ?_⟩
  show r.how = 0 ∨ (p.key < r.key ∧ nz (q (smN j, smN i)) + _ ≠ 0)
  rw [hq]; exact a3
theorem Ahead.ask {n i j w : Nat} {s : MS} (hn : n ≤ 6) (hi : InvM n s) (hij : i ≠ j) (h : Ahead i j s) (hi' : InvM n (askM s w).2) : Goes i j s (askM s w).2 := by
  have h0 := h
  obtain ⟨p, r, hp, hr, a1, a2, a3⟩ := h
  have b1 := (hi.toN.idx hn hp).2
  have b2 := (hi.toN.idx hn hr).2
  have b3 := (hi.toN.idx hn hp).1
  unfold askM at hi' ⊢
  split
  · rename_i pw hw
    rw [hw] at hi'; dsimp only at hi'
    split
    · rename_i hc
      rw [if_pos hc] at hi'
      have bw := (hi.toN.idx hn hw).2
      have h1 : w ≠ i := fun e => by subst e; cases hw.symm.trans hp; omega
      refine Goes.of (t := ⟨s.ps.set w ⟨pw.n + 1, 1, pw.n + 1, 0, pw.waits⟩, tellW s.q w (pw.n + 1) s.ps.length, s.ins⟩) (Ahead.enter (w := w) hij ?_ hi') rfl
      have hlen : s.ps.length < 2048 := by rw [hi.len]; omega
      by_cases h2 : w = j
      · subst h2
        cases hw.symm.trans hr
        refine ⟨p, _, by dsimp only; rw [List.getElem?_set_ne h1]; exact hp, set_get hw, a1, ?_, .inr ⟨?_, ?_⟩⟩
        · show p.key ≤ r.n + 1; omega
        · show p.key < r.n + 1; omega
        · show nz (tellW s.q w (r.n + 1) s.ps.length (smN w, smN i)) + _ ≠ 0
          rw [tellW_get bw bw b1 hlen, if_pos ⟨rfl, hij, by rw [hi.len]; exact b3⟩, nz_app, nz_one (by omega)]; omega
      · exact h0.other h1 h2 (by rw [tellW_get bw b2 b1 hlen, if_neg (fun q => h2 q.1.symm)])
    · exact .inl ⟨h0, .inl rfl⟩
  · exact .inl ⟨h0, .inl rfl⟩
theorem Ahead.leave {n i j w : Nat} {s : MS} (hn : n ≤ 6) (hi : InvM n s) (hij : i ≠ j) (h : Ahead i j s) : Goes i j s (leaveM s w).2 := by
  have h0 := h
  obtain ⟨p, r, hp, hr, a1, a2, a3⟩ := h
  have b1 := (hi.toN.idx hn hp).2
  have b2 := (hi.toN.idx hn hr).2
  unfold leaveM
  split
  · rename_i pw hw
    split
    · rename_i hc
      have bw := (hi.toN.idx hn hw).2
      have h1 : w ≠ i := fun e => by subst e; cases hw.symm.trans hp; omega
      have h2 : w ≠ j := fun e => by
        subst e; cases hw.symm.trans hr
        have := (hi.pair w i _ p (Ne.symm hij) hr hp).none (by omega)
        have a3 := (a3.resolve_left (by omega)).2
        omega
      refine .inl ⟨h0.other h1 h2 ?_, .inl rfl⟩
      rw [yesW_get bw b2 b1 _ fun k hk => by have := (hi.own w pw hw).2.2.2 k hk; omega, if_neg (fun q => h2 q.symm)]
    · exact .inl ⟨h0, .inl rfl⟩
  · exact .inl ⟨h0, .inl rfl⟩
theorem Ahead.take {n i j w f : Nat} {s : MS} (hn : n ≤ 6) (hi : InvM n s) (hij : i ≠ j) (h : Ahead i j s) (hf : f < n) (hne : f ≠ w) (hi' : InvM n (takeM s w f).2) : Goes i j s (takeM s w f).2 := by
  have h0 := h
  obtain ⟨p, r, hp, hr, a1, a2, a3⟩ := h
  have b1 := (hi.toN.idx hn hp).2
  have b2 := (hi.toN.idx hn hr).2
  have bf : f < 2048 := by omega
  unfold takeM at hi' ⊢
  split
  · exact .inl ⟨h0, .inl rfl⟩
  · rename_i x l hq
    rw [hq] at hi'; dsimp only at hi'
    have hQ : Q s f w = x :: l := hq
    split
    · exact .inl ⟨h0, .inl rfl⟩
    · rename_i pw hw
      rw [hw] at hi'; dsimp only at hi'
      have bw := (hi.toN.idx hn hw).2
      have hup : upW s.q (smN f, smN w) l (smN j, smN i) = if j = f ∧ i = w then l else Q s j i := by
        rw [upW_at]
        by_cases e : j = f ∧ i = w
        · obtain ⟨rfl, rfl⟩ := e; rw [if_pos rfl, if_pos ⟨rfl, rfl⟩]
        · rw [if_neg e, if_neg]
          intro g
          have := Prod.ext_iff.1 g
          exact e ⟨smN_inj b2 bf this.1, smN_inj b1 bw this.2⟩
      split
      · rename_i hx
        rw [if_pos hx] at hi'
        refine Goes.of (t := ⟨s.ps.set w { pw with yes := pw.yes + 1 }, upW s.q (smN f, smN w) l, s.ins⟩) (Ahead.enter (w := w) hij ?_ hi') rfl
        by_cases h1 : w = i
        · subst h1
          cases hw.symm.trans hp
          refine ⟨_, r, set_get hw, by dsimp only; rw [List.getElem?_set_ne hij]; exact hr, a1, a2, ?_⟩
          show r.how = 0 ∨ (p.key < r.key ∧ nz (upW s.q (smN f, smN w) l (smN j, smN w)) + p.waits.count j ≠ 0)
          rw [hup]
          by_cases e : j = f
          · subst e
            rw [if_pos ⟨rfl, rfl⟩]
            rw [hQ, nz_cons, if_pos hx, Nat.zero_add] at a3; exact a3
          · rw [if_neg (fun q => e q.1)]; exact a3
        · by_cases h2 : w = j
          · subst h2
            cases hw.symm.trans hr
            refine ⟨p, _, by dsimp only; rw [List.getElem?_set_ne h1]; exact hp, set_get hw, a1, a2, ?_⟩
            show r.how = 0 ∨ (p.key < r.key ∧ nz (upW s.q (smN f, smN w) l (smN w, smN i)) + p.waits.count w ≠ 0)
            rw [hup, if_neg (fun q => hne q.1.symm)]; exact a3
          · exact h0.other h1 h2 (by rw [hup, if_neg (fun q => h1 q.2.symm)])
      · rename_i hx
        split
        · rename_i hd
          refine .inl ⟨?_, .inl rfl⟩
          by_cases h1 : w = i
          · subst h1
            cases hw.symm.trans hp
            refine ⟨_, r, set_get hw, by dsimp only; rw [List.getElem?_set_ne hij]; exact hr, a1, a2, ?_⟩
            show r.how = 0 ∨ (p.key < r.key ∧ nz (upW s.q (smN f, smN w) l (smN j, smN w)) + (p.waits ++ [f]).count j ≠ 0)
            rw [hup, List.count_append]
            by_cases e : j = f
            · subst e
              rcases a3 with a3 | a3
              · exact .inl a3
              · exact .inr ⟨a3.1, by rw [List.count_singleton_self]; omega⟩
            · rw [if_neg (fun q => e q.1), List.count_singleton, if_neg (by simp [Ne.symm e]), Nat.add_zero]; exact a3
          · by_cases h2 : w = j
            · subst h2
              cases hw.symm.trans hr
              refine ⟨p, _, by dsimp only; rw [List.getElem?_set_ne h1]; exact hp, set_get hw, a1, ?_, ?_⟩
              · show p.key ≤ max r.n x; omega
              · show r.how = 0 ∨ (p.key < r.key ∧ nz (upW s.q (smN f, smN w) l (smN w, smN i)) + p.waits.count w ≠ 0)
                rw [hup, if_neg (fun q => hne q.1.symm)]; exact a3
            · exact h0.other h1 h2 (by rw [hup, if_neg (fun q => h1 q.2.symm)])
        · rename_i hd
          refine .inl ⟨?_, .inl rfl⟩
          have hsq : sendW (upW s.q (smN f, smN w) l) w f 0 (smN j, smN i) = if j = w ∧ i = f then (if j = f ∧ i = w then l else Q s j i) ++ [0] else if j = f ∧ i = w then l else Q s j i := by
            rw [sendW_at bw bf b2 b1, hup]
          by_cases h1 : w = i
          · subst h1
            cases hw.symm.trans hp
            by_cases e : j = f
            · subst e
              exfalso
              have g := hi.pair j w r p hne hr hp
              rw [hQ] at g
              have nz1 : nz (x :: l) ≠ 0 := by rw [nz_cons, if_neg hx]; omega
              rcases a3 with a3 | ⟨a3, _⟩
              · have := g.none (by omega); omega
              · have := g.val x (by simp) hx
                exact hd (.inr ⟨a1, decide_eq_true (.inl (by omega))⟩)
            · refine ⟨_, r, set_get hw, by dsimp only; rw [List.getElem?_set_ne hij]; exact hr, a1, a2, ?_⟩
              show r.how = 0 ∨ (p.key < r.key ∧ nz (sendW (upW s.q (smN f, smN w) l) w f 0 (smN j, smN w)) + p.waits.count j ≠ 0)
              rw [hsq, if_neg (fun q => hij q.1.symm), if_neg (fun q => e q.1)]; exact a3
          · by_cases h2 : w = j
            · subst h2
              cases hw.symm.trans hr
              refine ⟨p, _, by dsimp only; rw [List.getElem?_set_ne h1]; exact hp, set_get hw, a1, ?_, ?_⟩
              · show p.key ≤ max r.n x; omega
              · show r.how = 0 ∨ (p.key < r.key ∧ nz (sendW (upW s.q (smN f, smN w) l) w f 0 (smN w, smN i)) + p.waits.count w ≠ 0)
                rw [hsq, if_neg (show ¬ (w = f ∧ i = w) from fun q => hne q.1.symm)]
                split
                · rw [nz_app]; exact a3
                · exact a3
            · exact h0.other h1 h2 (by rw [hsq, if_neg (fun q => h2 q.1.symm), if_neg (fun q => h1 q.2.symm)])
theorem Ahead.step {n i j : Nat} {s : MS} (hn : n ≤ 6) (hi : InvM n s) (hij : i ≠ j) (h : Ahead i j s) (c : Mv) : Goes i j s (stepM s c).2 := by
  have hi' := hi.step hn c
  have hs : Goes i j s s := .inl ⟨h, .inl rfl⟩
  unfold stepM at hi' ⊢
  split
  · exact hs
  · rename_i k1
    rw [if_neg k1] at hi'
    split
    · exact hs
    · rename_i h2
      rw [if_neg h2] at hi'
      split
      · rename_i k3
        rw [if_pos k3] at hi'
        exact h.ask hn hi hij hi'
      · rename_i k3
        rw [if_neg k3] at hi'
        split
        · rename_i h4
          rw [if_pos h4] at hi'
          have h5 : isN s.ps.length c.frm = true := by
            cases e : isN s.ps.length c.frm
            · exact absurd (.inr ⟨h4, .inl e⟩) h2
            · rfl
          have e1 := isN_eq h5
          have e2 := of_decide_eq_true h5
          have h6 : isN s.ps.length c.who = true := by
            cases e : isN s.ps.length c.who
            · exact absurd (.inl e) h2
            · rfl
          have e3 := isN_eq h6
          exact h.take hn hi hij (by rw [← hi.len]; omega) (fun e => h2 (.inr ⟨h4, .inr (by rw [← e1, ← e3, e])⟩)) hi'
        · exact h.leave hn hi hij
theorem Ahead.run {n i j : Nat} (hn : n ≤ 6) (hij : i ≠ j) : ∀ (l : List Mv) {s : MS}, InvM n s → Ahead i j s → ∃ t, (stM s l).ins = s.ins ++ t ∧ (j ∉ t ∨ ∃ a b, t = a ++ i :: b ∧ j ∉ a)
  | [], s, _, _ => ⟨[], by simp [stM], .inl (by simp)⟩
  | c :: l, s, hi, h => by
    have hi' := hi.step hn c
    rcases h.step hn hi hij c with ⟨h', h2⟩ | h2
    · obtain ⟨t, e, ht⟩ := Ahead.run hn hij l hi' h'
      rcases h2 with h2 | ⟨w, hw, h2⟩
      · exact ⟨t, by rw [← h2]; exact e, ht⟩
      · refine ⟨w :: t, by show (stM (stepM s c).2 l).ins = _; rw [e, h2]; simp, ?_⟩
        rcases ht with ht | ⟨a, b, rfl, ha⟩
        · exact .inl (by simp [Ne.symm hw, ht])
        · exact .inr ⟨w :: a, b, rfl, by simp [Ne.symm hw, ha]⟩
    · obtain ⟨t, ht⟩ := ins_run l (stepM s c).2
      refine ⟨i :: t, by show (stM (stepM s c).2 l).ins = _; rw [← ht, h2]; simp, .inr ⟨[], t, rfl, by simp⟩⟩
/-! who went in is one of them -/
theorem ins_enter (t : MS) (w : Nat) : (enterM t w).ins = t.ins ∨ ((enterM t w).ins = t.ins ++ [w] ∧ w < t.ps.length) := by
  rcases enter_cases t w with e | ⟨q, hq, _, e⟩
  · rw [e]; exact .inl rfl
  · rw [e]; exact .inr ⟨rfl, (List.getElem?_eq_some_iff.1 hq).1⟩
theorem ins_cases (s : MS) (c : Mv) : (stepM s c).2.ins = s.ins ∨ ∃ w, w < s.ps.length ∧ (stepM s c).2.ins = s.ins ++ [w] := by
  have he : ∀ (t : MS) (w : Nat), t.ins = s.ins → t.ps.length = s.ps.length → (enterM t w).ins = s.ins ∨ ∃ w', w' < s.ps.length ∧ (enterM t w).ins = s.ins ++ [w'] := fun t w h1 h2 => by
    rcases ins_enter t w with e | ⟨e, hw⟩
    · exact .inl (e.trans h1)
    · exact .inr ⟨w, by omega, by rw [e, h1]⟩
  unfold stepM
  split
  · exact .inl rfl
  · split
    · exact .inl rfl
    · split
      · unfold askM
        split
        · split
          · exact he _ _ rfl (by simp)
          · exact .inl rfl
        · exact .inl rfl
      · split
        · unfold takeM
          split
          · exact .inl rfl
          · split
            · exact .inl rfl
            · split
              · exact he _ _ rfl (by simp)
              · split <;> exact .inl rfl
        · unfold leaveM
          split
          · split <;> exact .inl rfl
          · exact .inl rfl
theorem ins_lt {n : Nat} (hn : n ≤ 6) : ∀ (l : List Mv) {s : MS}, InvM n s → (∀ x ∈ s.ins, x < n) → ∀ x ∈ (stM s l).ins, x < n
  | [], s, _, h => h
  | c :: l, s, hi, h => ins_lt hn l (hi.step hn c) fun x hx => by
    rcases ins_cases s c with e | ⟨w, hw, e⟩
    · rw [e] at hx; exact h x hx
    · rw [e] at hx
      rcases List.mem_append.1 hx with g | g
      · exact h x g
      · rw [List.mem_singleton.1 g, ← hi.len]; exact hw
theorem mem_cast {l : List Nat} {j : Nat} (h : (j : Int) ∈ l.map fun e : Nat => (e : Int)) : j ∈ l := by
  obtain ⟨y, hy, e⟩ := List.mem_map.1 h
  have : y = j := by omega
  rwa [this] at hy
theorem fair {n : Nat} (hn : n ≤ 6) (cs : List Mv) (a : Nat) {i j : Int} (hq : ∀ k, (stM (ms0 n) (cs.take a)).q k = [])
    (h2 : ¬ posI i (askI (cs.take a) (codesM (ms0 n) (cs.take a)) (cs.take a).length) < 0)
    (h3 : ¬ 0 ≤ posI i ((inL (stM (ms0 n) (cs.take a)).ps n).map fun e : Nat => (e : Int)))
    (h4 : ¬ 0 ≤ posI j (askI (cs.take a) (codesM (ms0 n) (cs.take a)) (cs.take a).length)) :
    posI j (((stM (ms0 n) cs).ins.drop (stM (ms0 n) (cs.take a)).ins.length).map fun e : Nat => (e : Int)) < 0 ∨
    (0 ≤ posI i (((stM (ms0 n) cs).ins.drop (stM (ms0 n) (cs.take a)).ins.length).map fun e : Nat => (e : Int)) ∧ posI i (((stM (ms0 n) cs).ins.drop (stM (ms0 n) (cs.take a)).ins.length).map fun e : Nat => (e : Int)) < posI j (((stM (ms0 n) cs).ins.drop (stM (ms0 n) (cs.take a)).ins.length).map fun e : Nat => (e : Int))) := by
  have inv := (InvM.zero n).run hn (cs.take a)
  have ha := asks_all n (cs.take a)
  have hiL : i ∈ askI (cs.take a) (codesM (ms0 n) (cs.take a)) (cs.take a).length := Classical.byContradiction fun q => h2 (by rw [pos_no q]; decide)
  have hjL : ¬ j ∈ askI (cs.take a) (codesM (ms0 n) (cs.take a)) (cs.take a).length := fun q => h4 (pos_in q)
  obtain ⟨i, rfl, hi0⟩ := (ha i).1 hiL
  obtain ⟨p, hp, hp0⟩ := how_some hi0
  have hpn := (inv.toN.idx hn hp).1
  have hp2 : p.how ≠ 2 := fun q => h3 (pos_in (List.mem_map.2 ⟨i, List.mem_filter.2 ⟨List.mem_range.2 hpn, by rw [hp]; exact decide_eq_true q⟩, rfl⟩))
  obtain ⟨o1, o2, o3, o4⟩ := inv.own i p hp
  have hp1 : p.how = 1 := by omega
  have hall := ins_lt hn cs (InvM.zero n) fun x hx => by simp [ms0] at hx
  by_cases hj : 0 ≤ j ∧ j < n
  · obtain ⟨j, rfl⟩ : ∃ m : Nat, j = (m : Int) := ⟨j.toNat, by omega⟩
    obtain ⟨r, hr⟩ := pend_lt inv.toN (j := j) (by omega)
    have hr0 : r.how = 0 := Classical.byContradiction fun q => hjL ((ha _).2 ⟨j, rfl, by rw [how_at hr]; exact q⟩)
    have hij : i ≠ j := fun e => by subst e; cases hp.symm.trans hr; omega
    have g := inv.pair i j p r hij hp hr
    have hA : Ahead i j (stM (ms0 n) (cs.take a)) := ⟨p, r, hp, hr, hp1, (g.ans hp0 (by unfold Q; rw [hq]; rfl) (Classical.byContradiction fun q => by have := (g.wai q).2; omega)).1, .inl hr0⟩
    obtain ⟨t, e, ht⟩ := Ahead.run hn hij (cs.drop a) inv hA
    rw [← stM_app, List.take_append_drop] at e
    rw [e, List.drop_left]
    rcases ht with ht | ⟨u, v, rfl, hu⟩
    · left; rw [pos_no (fun q => ht (mem_cast q))]; decide
    · rw [List.map_append, List.map_cons]
      exact pos_first (fun q => hu (mem_cast q)) (by omega)
  · left
    rw [pos_no (fun q => by obtain ⟨y, hy, e9⟩ := List.mem_map.1 q; have := hall y (List.mem_of_mem_drop hy); omega)]; decide
end Go.Proofs.Ytgfileonpoghmaa
