/- What is always so, step by step. In plain words. No condition. -/
import Derived.Test.YtgfileonpoghmaaM1
import Derived.Test.YtgfileonpoghmaaA6
namespace Go.Proofs.Ytgfileonpoghmaa
open Go.RowKit
set_option linter.unusedVariables false
set_option linter.unusedSimpArgs false
set_option maxRecDepth 100000

theorem nz_zero {l : List Nat} (h : nz l = 0) : ∀ x ∈ l, x = 0 := fun x hx => by
  refine Classical.byContradiction fun hne => ?_
  have : x ∈ l.filter fun x => decide (x ≠ 0) := List.mem_filter.2 ⟨hx, by simpa using hne⟩
  unfold nz at h
  rw [List.eq_nil_of_length_eq_zero h] at this
  cases this
theorem InvN.idx {n : Nat} {s : MS} (h : InvN n s) (hn : n ≤ 6) {i : Nat} {p : Pq} (hp : s.ps[i]? = some p) : i < n ∧ i < 2048 := by
  have := (List.getElem?_eq_some_iff.1 hp).1
  rw [h.len] at this; exact ⟨this, by omega⟩
theorem waits_set {s : MS} {i a : Nat} {p p' : Pq} {q : Wy} (hp : s.ps[i]? = some p) : waitsOf { s with q := q, ps := s.ps.set i p' } a = if a = i then p'.waits else waitsOf s a := by
  have hil := (List.getElem?_eq_some_iff.1 hp).1
  unfold waitsOf
  by_cases e : i = a
  · subst e; dsimp only; rw [List.getElem?_set_self hil, if_pos rfl]; rfl
  · dsimp only; rw [List.getElem?_set_ne e, if_neg (fun h => e h.symm)]
theorem pend_lt {n : Nat} {s : MS} (h : InvN n s) {j : Nat} (hj : j < n) : ∃ r, s.ps[j]? = some r := get_of_lt (by rw [h.len]; exact hj)
/-- a new state of one process, and other ways: what is to be shown -/
theorem InvN.turn {n i : Nat} {s : MS} {p p' : Pq} {q : Wy} (h : InvN n s) (hn : n ≤ 6) (hp : s.ps[i]? = some p)
    (hown : p'.key ≤ p'.n ∧ (p'.how ≠ 0 → 1 ≤ p'.key) ∧ p'.how ≤ 2 ∧ ∀ j ∈ p'.waits, j < n ∧ j ≠ i)
    (h1 : ∀ (b : Nat) (y : Pq), b ≠ i → s.ps[b]? = some y → PairI i b p y (Q s i b) (Q s b i) → PairI i b p' y (q (smN i, smN b)) (q (smN b, smN i)))
    (h2 : ∀ (a : Nat) (x : Pq), a ≠ i → s.ps[a]? = some x → PairI a i x p (Q s a i) (Q s i a) → PairI a i x p' (q (smN a, smN i)) (q (smN i, smN a)))
    (h3 : ∀ (a b : Nat), a ≠ i → b ≠ i → a < 2048 → b < 2048 → q (smN a, smN b) = Q s a b)
    (h4 : p'.how = 1 → cp (fun j => decide (j = i ∨ pend { s with q := q, ps := s.ps.set i p' } i j = 0)) n = p'.yes + 1)
    (h5 : ∀ (a : Nat) (x : Pq), a ≠ i → s.ps[a]? = some x → x.how = 1 → nz (q (smN a, smN i)) + zz (q (smN i, smN a)) + p'.waits.count a = nz (Q s a i) + zz (Q s i a) + p.waits.count a) :
    InvN n { s with q := q, ps := s.ps.set i p' } := by
  refine ⟨by show (s.ps.set i p').length = n; rw [List.length_set]; exact h.len, fun j r hr => ?_, fun a b x y hab hx hy => ?_, fun j r hr hr1 => ?_⟩
  · rcases set_cases hr with ⟨rfl, rfl⟩ | ⟨hne, hr'⟩
    · exact hown
    · exact h.own j r hr'
  · rcases set_cases hx with ⟨rfl, rfl⟩ | ⟨hna, hx'⟩
    · rcases set_cases hy with ⟨rfl, rfl⟩ | ⟨hnb, hy'⟩
      · exact absurd rfl hab
      · exact h1 b y hnb hy' (h.pair _ _ p y hab hp hy')
    · rcases set_cases hy with ⟨rfl, rfl⟩ | ⟨hnb, hy'⟩
      · exact h2 a x hna hx' (h.pair _ _ x p hab hx' hp)
      · show PairI a b x y (q (smN a, smN b)) (q (smN b, smN a))
        rw [h3 a b hna hnb (h.idx hn hx').2 (h.idx hn hy').2, h3 b a hnb hna (h.idx hn hy').2 (h.idx hn hx').2]
        exact h.pair a b x y hab hx' hy'
  · rcases set_cases hr with ⟨rfl, rfl⟩ | ⟨hne, hr'⟩
    · exact h4 hr1
    · rw [← h.yes j r hr' hr1]
      refine cp_congr fun k hk => ?_
      have e : pend { s with q := q, ps := s.ps.set i p' } j k = pend s j k := by
        unfold pend
        rw [waits_set hp]
        by_cases e : k = i
        · subst e
          rw [if_pos rfl]
          have := h5 j r hne hr' hr1
          rw [waits_at hp]; exact this
        · rw [if_neg e]
          show nz (q (smN j, smN k)) + zz (q (smN k, smN j)) + _ = _
          rw [h3 j k hne e (h.idx hn hr').2 (by omega), h3 k j e hne (by omega) (h.idx hn hr').2]
      rw [e]
theorem InvM.ask {n i : Nat} {s : MS} (h : InvM n s) (hn : n ≤ 6) : InvM n (askM s i).2 := by
  unfold askM
  split
  · rename_i p hp
    split
    · rename_i hw
      obtain ⟨o1, o2, o3, o4⟩ := h.own i p hp
      have hN := h.toN
      obtain ⟨hi1, hi2⟩ := hN.idx hn hp
      have hq : ∀ a b, a < 2048 → b < 2048 → b < n → tellW s.q i (p.n + 1) s.ps.length (smN a, smN b) = if a = i ∧ b ≠ i then Q s a b ++ [p.n + 1] else Q s a b := fun a b ha hb hbn => by
        rw [tellW_get hi2 ha hb (by rw [h.len]; omega), h.len]
        by_cases e : a = i ∧ b ≠ i
        · rw [if_pos e, if_pos ⟨e.1, e.2, hbn⟩]
        · rw [if_neg e, if_neg (fun q => e ⟨q.1, q.2.1⟩)]
      have hw0 : ∀ (a : Nat) (x : Pq), a ≠ i → s.ps[a]? = some x → p.waits.count a = 0 := fun a x ha hx => by
        refine Classical.byContradiction fun q => ?_
        have := ((h.pair a i x p ha hx hp).wai q).2
        omega
      have key : InvN n { s with q := tellW s.q i (p.n + 1) s.ps.length, ps := s.ps.set i ⟨p.n + 1, 1, p.n + 1, 0, p.waits⟩ } := by
        refine hN.turn hn hp ⟨Nat.le_refl _, fun _ => by simp, by simp, o4⟩ (fun b y hb hy e => ?_) (fun a x ha hx e => ?_) (fun a b ha hb h1 h2 => ?_) (fun _ => ?_) (fun a x ha hx h1 => ?_)
        · obtain ⟨b1, b2⟩ := hN.idx hn hy
          rw [hq i b hi2 b2 b1, hq b i b2 hi2 hi1, if_pos ⟨rfl, hb⟩, if_neg (fun q => q.2 rfl)]
          have e0 := e.none (by omega)
          refine ⟨fun _ => ?_, fun q => absurd rfl q, fun x hx hne => ?_, fun _ q => ?_, fun q => absurd q (by omega)⟩
          · rw [nz_app, nz_one (by omega)]; omega
          · rcases List.mem_append.1 hx with g | g
            · exact absurd (nz_zero (by omega) x g) hne
            · simpa using g
          · rw [nz_app, nz_one (by omega)] at q; omega
        · obtain ⟨b1, b2⟩ := hN.idx hn hx
          rw [hq i a hi2 b2 b1, hq a i b2 hi2 hi1, if_neg (fun q => q.2 rfl), if_pos ⟨rfl, ha⟩]
          have ez : zz (Q s i a ++ [p.n + 1]) = zz (Q s i a) := by rw [zz_app, zz_one (by omega)]; rfl
          refine ⟨fun q => by rw [ez]; exact e.one q, fun q => by rw [ez]; exact e.none q, e.val, fun q1 q2 q3 => ?_, fun q => absurd (hw0 a x ha hx) q⟩
          have := (e.ans q1 q2 q3).1
          exact ⟨by show x.key ≤ p.n + 1; omega, fun _ => .inl (by show x.key < p.n + 1; omega)⟩
        · by_cases hbn : b < n
          · rw [hq a b h1 h2 hbn, if_neg (fun q => ha q.1)]
          · rw [tellW_get hi2 h1 h2 (by rw [h.len]; omega), if_neg (fun q => ha q.1)]
        · show _ = 0 + 1
          refine cp_one hi1 fun j hj => ?_
          rw [decide_eq_true_iff]
          refine ⟨fun g => ?_, fun g => .inl g⟩
          rcases g with g | g
          · exact g
          · refine Classical.byContradiction fun hne => ?_
            unfold pend at g
            have : nz (tellW s.q i (p.n + 1) s.ps.length (smN i, smN j)) = 0 := by
              have g : nz (tellW s.q i (p.n + 1) s.ps.length (smN i, smN j)) + _ + _ = 0 := g
              omega
            rw [hq i j hi2 (by omega) hj, if_pos ⟨rfl, hne⟩, nz_app, nz_one (by omega)] at this
            omega
        · obtain ⟨b1, b2⟩ := hN.idx hn hx
          rw [hq i a hi2 b2 b1, hq a i b2 hi2 hi1, if_neg (fun q => q.2 rfl), if_pos ⟨rfl, ha⟩, zz_app, zz_one (by omega)]; rfl
      exact key.enter fun j r hj hr h1 => by
        rcases set_cases hr with ⟨e, _⟩ | ⟨_, hr'⟩
        · exact absurd e hj
        · exact h.out j r hr' h1
    · exact h
  · exact h
theorem InvM.leave {n i : Nat} {s : MS} (h : InvM n s) (hn : n ≤ 6) : InvM n (leaveM s i).2 := by
  unfold leaveM
  split
  · rename_i p hp
    split
    · rename_i hw
      obtain ⟨o1, o2, o3, o4⟩ := h.own i p hp
      have hN := h.toN
      obtain ⟨hi1, hi2⟩ := hN.idx hn hp
      have hq : ∀ a b, a < 2048 → b < 2048 → yesW s.q i p.waits (smN a, smN b) = if a = i then Q s a b ++ List.replicate (p.waits.count b) 0 else Q s a b := fun a b ha hb =>
        yesW_get hi2 ha hb p.waits fun j hj => by have := (o4 j hj).1; omega
      have key : InvN n { s with q := yesW s.q i p.waits, ps := s.ps.set i { p with how := 0, waits := [] } } := by
        refine hN.turn hn hp ⟨o1, fun q => absurd rfl q, Nat.zero_le _, fun j hj => by simp at hj⟩ (fun b y hb hy e => ?_) (fun a x ha hx e => ?_) (fun a b ha hb h1 h2 => ?_) (fun q => ?_) (fun a x ha hx h1 => ?_)
        · obtain ⟨b1, b2⟩ := hN.idx hn hy
          rw [hq i b hi2 b2, hq b i b2 hi2, if_pos rfl, if_neg hb]
          have e0 := e.none (by omega)
          refine ⟨fun q => (by cases q), fun _ => ?_, fun x hx hne => ?_, fun q => absurd rfl q, fun q => absurd q (by omega)⟩
          · rw [nz_app, nz_rep]; omega
          · rcases List.mem_append.1 hx with g | g
            · exact e.val x g hne
            · exact absurd (List.eq_of_mem_replicate g) hne
        · obtain ⟨b1, b2⟩ := hN.idx hn hx
          rw [hq i a hi2 b2, hq a i b2 hi2, if_neg ha, if_pos rfl]
          have ez : zz (Q s i a ++ List.replicate (p.waits.count a) 0) = zz (Q s i a) + p.waits.count a := by rw [zz_app, zz_rep]
          refine ⟨fun q => ?_, fun q => ?_, e.val, fun q1 q2 _ => ⟨?_, fun q => absurd rfl q⟩, fun q => absurd (List.count_nil) q⟩
          · rw [ez]; have := e.one q; show _ + _ + List.count a [] ≤ 1; rw [List.count_nil]; omega
          · rw [ez]; have := e.none q; show _ + _ + List.count a [] = 0; rw [List.count_nil]; omega
          · by_cases g : p.waits.count a = 0
            · exact (e.ans q1 q2 g).1
            · exact (e.wai g).1
        · rw [hq a b h1 h2, if_neg ha]
        · cases q
        · obtain ⟨b1, b2⟩ := hN.idx hn hx
          rw [hq i a hi2 b2, hq a i b2 hi2, if_neg ha, if_pos rfl, zz_app, zz_rep]
          show _ + _ + List.count a [] = _
          rw [List.count_nil]; omega
      refine ⟨key.len, key.own, key.pair, key.yes, fun j r hr h1 => ?_⟩
      rcases set_cases hr with ⟨_, rfl⟩ | ⟨_, hr'⟩
      · cases h1
      · exact h.out j r hr' h1
    · exact h
  · exact h
theorem InvM.take {n i f : Nat} {s : MS} (h : InvM n s) (hn : n ≤ 6) (hf : f < n) (hne : f ≠ i) : InvM n (takeM s i f).2 := by
  unfold takeM
  split
  · exact h
  · rename_i x l hq0
    split
    · exact h
    · rename_i p hp
      obtain ⟨o1, o2, o3, o4⟩ := h.own i p hp
      have hN := h.toN
      obtain ⟨hi1, hi2⟩ := hN.idx hn hp
      obtain ⟨r, hr⟩ := pend_lt hN hf
      have hf2 := (hN.idx hn hr).2
      have hup : ∀ a b, a < 2048 → b < 2048 → upW s.q (smN f, smN i) l (smN a, smN b) = if a = f ∧ b = i then l else Q s a b := fun a b ha hb => by
        rw [upW_at]
        by_cases e : a = f ∧ b = i
        · obtain ⟨rfl, rfl⟩ := e; rw [if_pos rfl, if_pos ⟨rfl, rfl⟩]
        · rw [if_neg e, if_neg]
          intro q
          have := Prod.ext_iff.1 q
          exact e ⟨smN_inj ha hf2 this.1, smN_inj hb hi2 this.2⟩
      have hQ : Q s f i = x :: l := hq0
      have e1 := h.pair i f p r (Ne.symm hne) hp hr
      have e2 := h.pair f i r p hne hr hp
      rw [hQ] at e1 e2
      split
      · rename_i hx0
        subst hx0
        have ez : zz (0 :: l) = 1 + zz l := by rw [zz_cons, if_pos rfl]
        have en : nz (0 :: l) = nz l := by rw [nz_cons, if_pos rfl, Nat.zero_add]
        have hp1 : p.how = 1 := Classical.byContradiction fun q => by have := e1.none q; omega
        have ho := e1.one hp1
        have key : InvN n { s with q := upW s.q (smN f, smN i) l, ps := s.ps.set i { p with yes := p.yes + 1 } } := by
          refine hN.turn hn hp ⟨o1, o2, o3, o4⟩ (fun b y hb hy e => ?_) (fun a y ha hy e => ?_) (fun a b ha hb h1 h2 => ?_) (fun _ => ?_) (fun a y ha hy h1 => ?_)
          · have b2 := (hN.idx hn hy).2
            rw [hup i b hi2 b2, hup b i b2 hi2, if_neg (fun q => hne q.1.symm)]
            by_cases g : b = f
            · subst g
              cases hr.symm.trans hy
              rw [if_pos ⟨rfl, rfl⟩]
              exact ⟨fun _ => by show nz _ + zz l + _ ≤ 1; omega, fun q => absurd hp1 q, e1.val, fun q1 q2 q3 => e1.ans q1 q2 q3, e1.wai⟩
            · rw [if_neg (fun q => g q.1)]
              exact ⟨e.one, e.none, e.val, e.ans, e.wai⟩
          · have b2 := (hN.idx hn hy).2
            rw [hup i a hi2 b2, hup a i b2 hi2, if_neg (show ¬ (i = f ∧ a = i) from fun q => hne q.1.symm)]
            by_cases g : a = f
            · subst g
              cases hr.symm.trans hy
              rw [if_pos ⟨rfl, rfl⟩]
              refine ⟨fun q => ?_, fun q => ?_, fun z hz => e2.val z (by simp [hz]), fun q1 q2 q3 => e2.ans q1 (by rw [en]; exact q2) q3, e2.wai⟩
              · have := e2.one q; rw [en] at this; exact this
              · have := e2.none q; rw [en] at this; exact this
            · rw [if_neg (fun q => g q.1)]
              exact ⟨e.one, e.none, e.val, e.ans, e.wai⟩
          · rw [hup a b h1 h2, if_neg (fun q => hb q.2)]
          · show _ = p.yes + 1 + 1
            have hpe : ∀ j, j < n → j ≠ f → j ≠ i → pend { s with q := upW s.q (smN f, smN i) l, ps := s.ps.set i { p with yes := p.yes + 1 } } i j = pend s i j := fun j hj hjf hji => by
              unfold pend
              rw [waits_set hp, if_neg hji]
              show nz (upW s.q (smN f, smN i) l (smN i, smN j)) + zz (upW s.q (smN f, smN i) l (smN j, smN i)) + _ = _
              rw [hup i j hi2 (by omega), hup j i (by omega) hi2, if_neg (fun q => hne q.1.symm), if_neg (fun q => hjf q.1)]
            refine (cp_add (p := fun j => decide (j = i ∨ pend s i j = 0)) hf ?_ ?_ fun j hj hjf => ?_).trans (by rw [h.yes i p hp hp1])
            · refine decide_eq_false fun g => ?_
              rcases g with g | g
              · exact hne g
              · unfold pend at g; rw [hQ] at g; omega
            · refine decide_eq_true (.inr ?_)
              unfold pend
              rw [waits_set hp, if_neg hne]
              show nz (upW s.q (smN f, smN i) l (smN i, smN f)) + zz (upW s.q (smN f, smN i) l (smN f, smN i)) + _ = 0
              rw [hup i f hi2 hf2, hup f i hf2 hi2, if_neg (fun q => hne q.1.symm), if_pos ⟨rfl, rfl⟩, waits_at hr]
              omega
            · by_cases g : j = i
              · rw [decide_eq_true (.inl g), decide_eq_true (.inl g)]
              · rw [hpe j hj hjf g]
          · have b2 := (hN.idx hn hy).2
            rw [hup i a hi2 b2, hup a i b2 hi2, if_neg (show ¬ (i = f ∧ a = i) from fun q => hne q.1.symm)]
            by_cases g : a = f
            · subst g; rw [if_pos ⟨rfl, rfl⟩, hQ, en]
            · rw [if_neg (fun q => g q.1)]
        exact key.enter fun j r hj hr h1 => by
          rcases set_cases hr with ⟨e, _⟩ | ⟨_, hr'⟩
          · exact absurd e hj
          · exact h.out j r hr' h1
      · rename_i hx0
        have en : nz (x :: l) = 1 + nz l := by rw [nz_cons, if_neg hx0]
        have ez : zz (x :: l) = zz l := by rw [zz_cons, if_neg hx0, Nat.zero_add]
        have hr1 : r.how = 1 := Classical.byContradiction fun q => by have := e2.none q; omega
        have ho := e2.one hr1
        have hxk : x = r.key := e2.val x (by simp) hx0
        split
        · rename_i hd
          have hcf : (p.waits ++ [f]).count f = 1 := by rw [List.count_append]; simp; omega
          have hca : ∀ a, a ≠ f → (p.waits ++ [f]).count a = p.waits.count a := fun a ha => by rw [List.count_append, List.count_singleton]; simp [Ne.symm ha]
          have key : InvN n { s with q := upW s.q (smN f, smN i) l, ps := s.ps.set i { p with n := max p.n x, waits := p.waits ++ [f] } } := by
            refine hN.turn hn hp ⟨by show p.key ≤ max p.n x; omega, o2, o3, fun j hj => ?_⟩ (fun b y hb hy e => ?_) (fun a y ha hy e => ?_) (fun a b ha hb h1 h2 => ?_) (fun q => ?_) (fun a y ha hy h1 => ?_)
            · rcases List.mem_append.1 hj with g | g
              · exact o4 j g
              · simp at g; subst g; exact ⟨hf, hne⟩
            · have b2 := (hN.idx hn hy).2
              rw [hup i b hi2 b2, hup b i b2 hi2, if_neg (fun q => hne q.1.symm)]
              by_cases g : b = f
              · subst g
                cases hr.symm.trans hy
                rw [if_pos ⟨rfl, rfl⟩]
                exact ⟨fun q => by have := e1.one q; rw [ez] at this; exact this, fun q => by have := e1.none q; rw [ez] at this; exact this, e1.val, e1.ans, e1.wai⟩
              · rw [if_neg (fun q => g q.1)]
                exact ⟨e.one, e.none, e.val, e.ans, e.wai⟩
            · have b2 := (hN.idx hn hy).2
              rw [hup i a hi2 b2, hup a i b2 hi2, if_neg (show ¬ (i = f ∧ a = i) from fun q => hne q.1.symm)]
              by_cases g : a = f
              · subst g
                cases hr.symm.trans hy
                rw [if_pos ⟨rfl, rfl⟩]
                refine ⟨fun _ => ?_, fun q => absurd hr1 q, fun z hz => e2.val z (by simp [hz]), fun _ _ q => absurd q (by show ¬ (p.waits ++ [a]).count a = 0; omega), fun _ => ⟨by show r.key ≤ max p.n x; omega, ?_⟩⟩
                · show _ + _ + (p.waits ++ [a]).count a ≤ 1; omega
                · rcases hd with g | ⟨g1, g2⟩
                  · exact .inl g
                  · refine .inr ⟨g1, ?_⟩
                    have g2 := of_decide_eq_true g2
                    unfold less; show p.key < r.key ∨ _; rw [← hxk]; exact g2
              · rw [if_neg (fun q => g q.1)]
                have hc := hca a g
                refine ⟨fun q => by show _ + _ + (p.waits ++ [f]).count a ≤ 1; rw [hc]; exact e.one q, fun q => by show _ + _ + (p.waits ++ [f]).count a = 0; rw [hc]; exact e.none q, e.val, fun q1 q2 q3 => ?_, fun q => ?_⟩
                · have q3 : (p.waits ++ [f]).count a = 0 := q3
                  rw [hc] at q3
                  obtain ⟨u1, u2⟩ := e.ans q1 q2 q3
                  exact ⟨by show y.key ≤ max p.n x; omega, u2⟩
                · have q : (p.waits ++ [f]).count a ≠ 0 := q
                  rw [hc] at q
                  obtain ⟨u1, u2⟩ := e.wai q
                  exact ⟨by show y.key ≤ max p.n x; omega, u2⟩
            · rw [hup a b h1 h2, if_neg (fun q => hb q.2)]
            · have q : p.how = 1 := q
              show _ = p.yes + 1
              rw [← h.yes i p hp q]
              refine cp_congr fun j hj => ?_
              by_cases g : j = i
              · rw [decide_eq_true (.inl g), decide_eq_true (.inl g)]
              · have : pend { s with q := upW s.q (smN f, smN i) l, ps := s.ps.set i { p with n := max p.n x, waits := p.waits ++ [f] } } i j = pend s i j := by
                  unfold pend
                  rw [waits_set hp, if_neg g]
                  show nz (upW s.q (smN f, smN i) l (smN i, smN j)) + zz (upW s.q (smN f, smN i) l (smN j, smN i)) + _ = _
                  rw [hup i j hi2 (by omega), hup j i (by omega) hi2, if_neg (fun q => hne q.1.symm)]
                  by_cases g2 : j = f
                  · subst g2; rw [if_pos ⟨rfl, rfl⟩, hQ, ez]
                  · rw [if_neg (fun q => g2 q.1)]
                rw [this]
            · have b2 := (hN.idx hn hy).2
              rw [hup i a hi2 b2, hup a i b2 hi2, if_neg (show ¬ (i = f ∧ a = i) from fun q => hne q.1.symm)]
              by_cases g : a = f
              · subst g; rw [if_pos ⟨rfl, rfl⟩, hQ, en, hcf]; omega
              · rw [if_neg (fun q => g q.1), hca a g]
          refine ⟨key.len, key.own, key.pair, key.yes, fun j r hr h1 => ?_⟩
          rcases set_cases hr with ⟨rfl, rfl⟩ | ⟨_, hr'⟩
          · exact h.out _ p hp h1
          · exact h.out j r hr' h1
        · rename_i hd
          have hsq : ∀ a b, a < 2048 → b < 2048 → sendW (upW s.q (smN f, smN i) l) i f 0 (smN a, smN b) = if a = i ∧ b = f then Q s i f ++ [0] else if a = f ∧ b = i then l else Q s a b := fun a b ha hb => by
            rw [sendW_at hi2 hf2 ha hb, hup a b ha hb]
            by_cases e : a = i ∧ b = f
            · obtain ⟨rfl, rfl⟩ := e
              rw [if_pos ⟨rfl, rfl⟩, if_neg (fun q => hne q.1.symm), if_pos ⟨rfl, rfl⟩]
            · rw [if_neg e, if_neg e]
          have nz0 : ∀ l' : List Nat, nz (l' ++ [0]) = nz l' := fun l' => by rw [nz_app]; rfl
          have zz0 : ∀ l' : List Nat, zz (l' ++ [0]) = zz l' + 1 := fun l' => by rw [zz_app]; rfl
          have key : InvN n { s with q := sendW (upW s.q (smN f, smN i) l) i f 0, ps := s.ps.set i { p with n := max p.n x } } := by
            refine hN.turn hn hp ⟨by show p.key ≤ max p.n x; omega, o2, o3, o4⟩ (fun b y hb hy e => ?_) (fun a y ha hy e => ?_) (fun a b ha hb h1 h2 => ?_) (fun q => ?_) (fun a y ha hy h1 => ?_)
            · have b2 := (hN.idx hn hy).2
              rw [hsq i b hi2 b2, hsq b i b2 hi2, if_neg (show ¬ (b = i ∧ i = f) from fun q => hb q.1)]
              by_cases g : b = f
              · subst g
                cases hr.symm.trans hy
                rw [if_pos ⟨rfl, rfl⟩, if_pos ⟨rfl, rfl⟩]
                refine ⟨fun q => by have := e1.one q; rw [ez] at this; rw [nz0]; exact this, fun q => by have := e1.none q; rw [ez] at this; rw [nz0]; exact this, fun z hz hz0 => ?_, fun q1 q2 q3 => e1.ans q1 (by rw [nz0] at q2; exact q2) q3, e1.wai⟩
                rcases List.mem_append.1 hz with u | u
                · exact e1.val z u hz0
                · simp at u; exact absurd u hz0
              · rw [if_neg (show ¬ (i = i ∧ b = f) from fun q => g q.2), if_neg (show ¬ (i = f ∧ b = i) from fun q => hne q.1.symm), if_neg (show ¬ (b = f ∧ i = i) from fun q => g q.1)]
                exact ⟨e.one, e.none, e.val, e.ans, e.wai⟩
            · have b2 := (hN.idx hn hy).2
              rw [hsq i a hi2 b2, hsq a i b2 hi2, if_neg (show ¬ (a = i ∧ i = f) from fun q => ha q.1)]
              by_cases g : a = f
              · subst g
                cases hr.symm.trans hy
                rw [if_pos ⟨rfl, rfl⟩, if_pos ⟨rfl, rfl⟩]
                refine ⟨fun _ => by rw [zz0]; show _ + _ + p.waits.count a ≤ 1; omega, fun q => absurd hr1 q, fun z hz => e2.val z (by simp [hz]), fun _ _ _ => ⟨by show r.key ≤ max p.n x; omega, fun q => ?_⟩, fun q => absurd q (by show ¬ p.waits.count a ≠ 0; omega)⟩
                have q : p.how ≠ 0 := q
                have h1 : p.how = 1 := by
                  have : p.how ≠ 2 := fun u => hd (.inl u)
                  omega
                have h2 : ¬ (p.key < x ∨ (p.key = x ∧ i < a)) := fun u => hd (.inr ⟨h1, decide_eq_true u⟩)
                unfold less
                show r.key < p.key ∨ (r.key = p.key ∧ a < i)
                omega
              · rw [if_neg (show ¬ (i = i ∧ a = f) from fun q => g q.2), if_neg (show ¬ (i = f ∧ a = i) from fun q => hne q.1.symm), if_neg (show ¬ (a = f ∧ i = i) from fun q => g q.1)]
                exact ⟨e.one, e.none, e.val, fun q1 q2 q3 => ⟨by have := (e.ans q1 q2 q3).1; show y.key ≤ max p.n x; omega, (e.ans q1 q2 q3).2⟩, fun q => ⟨by have := (e.wai q).1; show y.key ≤ max p.n x; omega, (e.wai q).2⟩⟩
            · rw [hsq a b h1 h2, if_neg (fun q => ha q.1), if_neg (fun q => hb q.2)]
            · have q : p.how = 1 := q
              show _ = p.yes + 1
              rw [← h.yes i p hp q]
              refine cp_congr fun j hj => ?_
              by_cases g : j = i
              · rw [decide_eq_true (.inl g), decide_eq_true (.inl g)]
              · have : pend { s with q := sendW (upW s.q (smN f, smN i) l) i f 0, ps := s.ps.set i { p with n := max p.n x } } i j = pend s i j := by
                  unfold pend
                  rw [waits_set hp, if_neg g]
                  show nz (sendW (upW s.q (smN f, smN i) l) i f 0 (smN i, smN j)) + zz (sendW (upW s.q (smN f, smN i) l) i f 0 (smN j, smN i)) + _ = _
                  rw [hsq i j hi2 (by omega), hsq j i (by omega) hi2, if_neg (show ¬ (j = i ∧ i = f) from fun q => g q.1)]
                  by_cases g2 : j = f
                  · subst g2; rw [if_pos ⟨rfl, rfl⟩, if_pos ⟨rfl, rfl⟩, hQ, ez, nz0]
                  · rw [if_neg (show ¬ (i = i ∧ j = f) from fun q => g2 q.2), if_neg (show ¬ (i = f ∧ j = i) from fun q => hne q.1.symm), if_neg (show ¬ (j = f ∧ i = i) from fun q => g2 q.1)]
                rw [this]
            · have b2 := (hN.idx hn hy).2
              rw [hsq i a hi2 b2, hsq a i b2 hi2, if_neg (show ¬ (a = i ∧ i = f) from fun q => ha q.1)]
              by_cases g : a = f
              · subst g; rw [if_pos ⟨rfl, rfl⟩, if_pos ⟨rfl, rfl⟩, hQ, en, zz0]; show _ + _ + p.waits.count a = _; omega
              · rw [if_neg (show ¬ (i = i ∧ a = f) from fun q => g q.2), if_neg (show ¬ (i = f ∧ a = i) from fun q => hne q.1.symm), if_neg (show ¬ (a = f ∧ i = i) from fun q => g q.1)]
          refine ⟨key.len, key.own, key.pair, key.yes, fun j r hr h1 => ?_⟩
          rcases set_cases hr with ⟨rfl, rfl⟩ | ⟨_, hr'⟩
          · exact h.out _ p hp h1
          · exact h.out j r hr' h1
theorem InvM.zero (n : Nat) : InvM n (ms0 n) := by
  have hg : ∀ (i : Nat) (p : Pq), (ms0 n).ps[i]? = some p → p = ⟨0, 0, 0, 0, []⟩ := fun i p h => by
    simp only [ms0, List.getElem?_replicate] at h; split at h
    · cases h; rfl
    · cases h
  refine ⟨by simp [ms0], fun i p h => ?_, fun i j p r hne hp hr => ?_, fun i p h h1 => ?_, fun i p h h1 => ?_⟩
  · rw [hg i p h]; exact ⟨Nat.le_refl _, fun q => absurd rfl q, Nat.zero_le _, fun j hj => by simp at hj⟩
  · rw [hg i p hp, hg j r hr]
    exact ⟨fun _ => Nat.zero_le _, fun _ => rfl, fun x hx => by simp [ms0, Q] at hx, fun q => absurd rfl q, fun q => absurd rfl q⟩
  · rw [hg i p h] at h1; cases h1
  · rw [hg i p h] at h1; cases h1
theorem InvM.step {n : Nat} {s : MS} (h : InvM n s) (hn : n ≤ 6) (c : Mv) : InvM n (stepM s c).2 := by
  unfold stepM
  split
  · exact h
  · split
    · exact h
    · rename_i h1 h2
      split
      · exact h.ask hn
      · split
        · rename_i h4
          have h5 : isN s.ps.length c.frm = true := by
            cases e : isN s.ps.length c.frm
            · exact absurd (.inr ⟨h4, .inl e⟩) h2
            · rfl
          have h6 : isN s.ps.length c.who = true := by
            cases e : isN s.ps.length c.who
            · exact absurd (.inl e) h2
            · rfl
          obtain ⟨j, e1, e2⟩ := isN_yes h5
          obtain ⟨k, e3, e4⟩ := isN_yes h6
          rw [h.len] at e2
          rw [e1, e3, Int.toNat_natCast, Int.toNat_natCast]
          exact h.take hn e2 fun e => h2 (.inr ⟨h4, .inr (by rw [e1, e3, e])⟩)
        · exact h.leave hn
theorem InvM.run {n : Nat} (hn : n ≤ 6) : ∀ (l : List Mv) {s : MS}, InvM n s → InvM n (stM s l)
  | [], s, h => h
  | c :: l, s, h => InvM.run hn l (h.step hn c)
theorem inL_one {n : Nat} {s : MS} (h : InvM n s) : (inL s.ps n).length ≤ 1 := by
  match e : inL s.ps n with
  | [] => simp
  | [a] => simp
  | a :: b :: l =>
    exfalso
    have hs : (inL s.ps n).Pairwise (· < ·) := List.Pairwise.filter _ List.pairwise_lt_range
    rw [e] at hs
    have hab := (List.pairwise_cons.1 hs).1 b (by simp)
    have hm : ∀ z, z ∈ inL s.ps n → ∃ p, s.ps[z]? = some p ∧ p.how = 2 := fun z hz => by
      have := (List.mem_filter.1 hz).2
      cases e : s.ps[z]? with
      | none => rw [e] at this; cases this
      | some p => rw [e] at this; exact ⟨p, rfl, of_decide_eq_true this⟩
    obtain ⟨p, hp, hp2⟩ := hm a (by rw [e]; simp)
    obtain ⟨r, hr, hr2⟩ := hm b (by rw [e]; simp)
    have := one_in h.toN hp hr hp2 hr2
    omega
/-- who went in stays so -/
theorem ins_step {s : MS} (c : Mv) : s.ins <+: (stepM s c).2.ins := by
  have he : ∀ (t : MS) (i : Nat), t.ins <+: (enterM t i).ins := fun t i => by
    unfold enterM
    split
    · split
      · exact List.prefix_append _ _
      · exact List.prefix_rfl
    · exact List.prefix_rfl
  unfold stepM
  split
  · exact List.prefix_rfl
  · split
    · exact List.prefix_rfl
    · split
      · unfold askM
        split
        · split
          · simpa using he ⟨_, _, s.ins⟩ _
          · exact List.prefix_rfl
        · exact List.prefix_rfl
      · split
        · unfold takeM
          split
          · exact List.prefix_rfl
          · split
            · exact List.prefix_rfl
            · split
              · generalize hE : enterM _ _ = E; have := hE ▸ he _ _; exact this
              · split <;> exact List.prefix_rfl
        · unfold leaveM
          split
          · split <;> exact List.prefix_rfl
          · exact List.prefix_rfl
theorem ins_run : ∀ (l : List Mv) (s : MS), s.ins <+: (stM s l).ins
  | [], s => List.prefix_rfl
  | c :: l, s => (ins_step c).trans (ins_run l _)
theorem ins_take (n : Nat) (cs : List Mv) (k : Nat) : (stM (ms0 n) (cs.take k)).ins <+: (stM (ms0 n) cs).ins := by
  have h := ins_run (cs.drop k) (stM (ms0 n) (cs.take k))
  rw [← stM_app, List.take_append_drop] at h; exact h
theorem codes_take (n : Nat) (cs : List Mv) (k : Nat) : codesM (ms0 n) (cs.take k) = (codesM (ms0 n) cs).take k := by
  have e : codesM (ms0 n) cs = codesM (ms0 n) (cs.take k) ++ codesM (stM (ms0 n) (cs.take k)) (cs.drop k) := by rw [← codesM_app, List.take_append_drop]
  have hl := codesM_len (cs.take k) (ms0 n)
  rw [List.length_take] at hl
  rcases Nat.le_total k cs.length with h | h
  · rw [Nat.min_eq_left h] at hl
    rw [e, List.take_append_of_le_length (by omega)]
    exact (List.take_of_length_le (by omega)).symm
  · rw [List.take_of_length_le h, List.take_of_length_le (by rw [codesM_len]; exact h)]
end Go.Proofs.Ytgfileonpoghmaa
