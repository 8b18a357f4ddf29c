/- Somebody is inside when all has come. In plain words. No condition. -/
import Derived.Test.YtgfileonpoghmaaM2
namespace Go.Proofs.Ytgfileonpoghmaa
open Go.RowKit
set_option linter.unusedVariables false
set_option linter.unusedSimpArgs false
set_option maxRecDepth 100000

theorem some_in {n : Nat} {s : MS} (h : InvM n s) (hn : n ≤ 6) (hq : ∀ k, s.q k = []) : ∀ (m i : Nat) (p : Pq), p.key * 8 + i < m → s.ps[i]? = some p → p.how ≠ 0 → ∃ (j : Nat) (r : Pq), s.ps[j]? = some r ∧ r.how = 2
  | 0, i, p, hm, _, _ => by omega
  | m + 1, i, p, hm, hp, h0 => by
    obtain ⟨o1, o2, o3, o4⟩ := h.own i p hp
    by_cases h2 : p.how = 2
    · exact ⟨i, p, hp, h2⟩
    have h1 : p.how = 1 := by omega
    have hy := h.yes i p hp h1
    have ho := h.out i p hp h1
    have : ∃ j, j < n ∧ ¬ (j = i ∨ pend s i j = 0) := Classical.byContradiction fun hno => by
      have := cp_all (p := fun j => decide (j = i ∨ pend s i j = 0)) (n := n) fun j hj => decide_eq_true (Classical.byContradiction fun q => hno ⟨j, hj, q⟩)
      omega
    obtain ⟨j, hj, hne⟩ := this
    obtain ⟨r, hr⟩ := pend_lt h.toN hj
    have hw : r.waits.count i ≠ 0 := fun q => hne (.inr (by unfold pend Q; rw [hq, hq, waits_at hr, q]; rfl))
    obtain ⟨w1, w2⟩ := (h.pair i j p r (fun e => hne (.inl e.symm)) hp hr).wai hw
    have b1 := (h.toN.idx hn hp).1
    rcases w2 with w2 | ⟨w2, w3⟩
    · exact ⟨j, r, hr, w2⟩
    · exact some_in h hn hq m j r (by unfold less at w3; omega) hr (by omega)
/-! who asks -/
def howof (s : MS) (i : Nat) : Nat := ((s.ps[i]?).map Pq.how).getD 0
theorem how_at {s : MS} {i : Nat} {p : Pq} (h : s.ps[i]? = some p) : howof s i = p.how := by unfold howof; rw [h]; rfl
theorem how_some {s : MS} {i : Nat} (h : howof s i ≠ 0) : ∃ p, s.ps[i]? = some p ∧ p.how ≠ 0 := by
  cases e : s.ps[i]? with
  | none => unfold howof at h; rw [e] at h; exact absurd rfl h
  | some p => exact ⟨p, rfl, by rwa [how_at e] at h⟩
theorem how_set {s : MS} {i a : Nat} {p p' : Pq} {q : Wy} {ins : List Nat} (hp : s.ps[i]? = some p) : howof { s with q := q, ins := ins, ps := s.ps.set i p' } a = if a = i then p'.how else howof s a := by
  have hil := (List.getElem?_eq_some_iff.1 hp).1
  unfold howof
  by_cases e : i = a
  · subst e; dsimp only; rw [List.getElem?_set_self hil, if_pos rfl]; rfl
  · dsimp only; rw [List.getElem?_set_ne e, if_neg (fun h => e h.symm)]
theorem how_enter {s : MS} {i a : Nat} : howof (enterM s i) a ≠ 0 ↔ howof s a ≠ 0 := by
  unfold enterM
  split
  · rename_i p hp
    split
    · rename_i hc
      have := how_set (q := s.q) (ins := s.ins ++ [i]) (a := a) (p' := { p with how := 2 }) hp
      rw [this]
      by_cases e : a = i
      · subst e; rw [if_pos rfl, how_at hp, hc.1]; exact ⟨fun _ => Nat.one_ne_zero, fun _ => show (2 : Nat) ≠ 0 by decide⟩
      · rw [if_neg e]
    · rfl
  · rfl
theorem isN_eq {n : Nat} {x : Int} (h : isN n x = true) : ((x.toNat : Nat) : Int) = x := by have := of_decide_eq_true h; omega
def askS (l : List Int) (c : Mv) (k : Int) : List Int := if k ≠ 0 ∨ c.kind = 2 then l else (l.filter fun x => decide (x ≠ c.who)) ++ (if c.kind = 1 then [c.who] else [])
def Asks (l : List Int) (s : MS) : Prop := ∀ x : Int, x ∈ l ↔ ∃ i : Nat, x = i ∧ howof s i ≠ 0
theorem asks_step {l : List Int} {s : MS} (h : Asks l s) (c : Mv) : Asks (askS l c (stepM s c).1) (stepM s c).2 := by
  have hno : ∀ k : Int, k ≠ 0 → Asks (askS l c k) s := fun k hk => by unfold askS; rw [if_pos (.inl hk)]; exact h
  unfold stepM
  split
  · exact hno 4 (by decide)
  · rename_i hk
    split
    · exact hno 2 (by decide)
    · rename_i h2
      have h6 : isN s.ps.length c.who = true := by
        cases e : isN s.ps.length c.who
        · exact absurd (.inl e) h2
        · rfl
      have hw := isN_eq h6
      have hlt : c.who.toNat < s.ps.length := by have := of_decide_eq_true h6; omega
      obtain ⟨p, hp⟩ := get_of_lt hlt
      split
      · rename_i h1
        unfold askM
        rw [hp]; dsimp only
        split
        · rename_i hc
          unfold askS
          rw [if_neg (by rw [h1]; show ¬ ((0:Int) ≠ 0 ∨ (1:Int) = 2); decide), if_pos h1]
          intro x
          simp only [how_enter]
          have hs := fun a => how_set (q := tellW s.q c.who.toNat (p.n + 1) s.ps.length) (ins := s.ins) (a := a) (p' := ⟨p.n + 1, 1, p.n + 1, 0, p.waits⟩) hp
          simp only [hs, List.mem_append, List.mem_filter, decide_eq_true_eq, List.mem_singleton]
          constructor
          · rintro (⟨g1, g2⟩ | rfl)
            · obtain ⟨i, rfl, gi⟩ := (h x).1 g1
              exact ⟨i, rfl, by rw [if_neg (by omega)]; exact gi⟩
            · exact ⟨c.who.toNat, hw.symm, by rw [if_pos rfl]; decide⟩
          · rintro ⟨i, rfl, gi⟩
            by_cases e : i = c.who.toNat
            · right; omega
            · left; rw [if_neg e] at gi; exact ⟨(h _).2 ⟨i, rfl, gi⟩, by omega⟩
        · exact hno 6 (by decide)
      · split
        · rename_i h1 h4
          have hsame : ∀ {k : Int} {s' : MS}, (∀ a, howof s' a ≠ 0 ↔ howof s a ≠ 0) → Asks (askS l c k) s' := fun hs => by
            unfold askS; rw [if_pos (.inr h4)]
            intro x; rw [h x]
            exact ⟨fun ⟨i, e, g⟩ => ⟨i, e, (hs i).2 g⟩, fun ⟨i, e, g⟩ => ⟨i, e, (hs i).1 g⟩⟩
          unfold takeM
          split
          · exact hsame fun a => Iff.rfl
          · rename_i x l' hq
            rw [hp]; dsimp only
            split
            · refine hsame fun a => how_enter.trans ?_
              rw [how_set (q := upW s.q (smN c.frm.toNat, smN c.who.toNat) l') (ins := s.ins) (a := a) (p' := { p with yes := p.yes + 1 }) hp]
              by_cases e : a = c.who.toNat
              · subst e; rw [if_pos rfl, how_at hp]
              · rw [if_neg e]
            · split
              · refine hsame fun a => ?_
                rw [how_set (q := upW s.q (smN c.frm.toNat, smN c.who.toNat) l') (ins := s.ins) (a := a) (p' := { p with n := max p.n x, waits := p.waits ++ [c.frm.toNat] }) hp]
                by_cases e : a = c.who.toNat
                · subst e; rw [if_pos rfl, how_at hp]
                · rw [if_neg e]
              · refine hsame fun a => ?_
                rw [how_set (q := sendW (upW s.q (smN c.frm.toNat, smN c.who.toNat) l') c.who.toNat c.frm.toNat 0) (ins := s.ins) (a := a) (p' := { p with n := max p.n x }) hp]
                by_cases e : a = c.who.toNat
                · subst e; rw [if_pos rfl, how_at hp]
                · rw [if_neg e]
        · rename_i h1 h4
          unfold leaveM
          rw [hp]; dsimp only
          split
          · unfold askS
            rw [if_neg (by omega), if_neg h1, List.append_nil]
            intro x
            have hs := fun a => how_set (q := yesW s.q c.who.toNat p.waits) (ins := s.ins) (a := a) (p' := { p with how := 0, waits := [] }) hp
            simp only [hs, List.mem_filter, decide_eq_true_eq]
            constructor
            · rintro ⟨g1, g2⟩
              obtain ⟨i, rfl, gi⟩ := (h x).1 g1
              exact ⟨i, rfl, by rw [if_neg (by omega)]; exact gi⟩
            · rintro ⟨i, rfl, gi⟩
              by_cases e : i = c.who.toNat
              · rw [if_pos e] at gi; exact absurd rfl gi
              · rw [if_neg e] at gi; exact ⟨(h _).2 ⟨i, rfl, gi⟩, by omega⟩
          · exact hno 6 (by decide)
def askI (cs : List Mv) (ks : List Int) : Nat → List Int
  | 0 => []
  | i + 1 => match cs[i]?, ks[i]? with
    | some c, some k => askS (askI cs ks i) c k
    | _, _ => askI cs ks i
theorem askI_succ {cs : List Mv} {ks : List Int} {i : Nat} {c : Mv} {k : Int} (h1 : cs[i]? = some c) (h2 : ks[i]? = some k) : askI cs ks (i + 1) = askS (askI cs ks i) c k := by simp only [askI]; rw [h1, h2]
theorem codes_at {n : Nat} {cs : List Mv} {i : Nat} {c : Mv} (h : cs[i]? = some c) : (codesM (ms0 n) cs)[i]? = some (stepM (stM (ms0 n) (cs.take i)) c).1 := by
  have hl : i < cs.length := (List.getElem?_eq_some_iff.1 h).1
  have e : (codesM (ms0 n) cs)[i]? = ((codesM (ms0 n) cs).take (i + 1))[i]? := by rw [List.getElem?_take_of_lt (by omega)]
  rw [e, ← codes_take, codesM_snoc h, List.getElem?_append_right (by rw [codesM_len, List.length_take]; omega), codesM_len, List.length_take, Nat.min_eq_left (by omega), Nat.sub_self]; rfl
theorem asks_zero (n : Nat) : Asks [] (ms0 n) := fun x => by
  constructor
  · intro h; cases h
  · rintro ⟨i, _, hi⟩
    obtain ⟨p, hp, h0⟩ := how_some hi
    simp only [ms0, List.getElem?_replicate] at hp; split at hp
    · cases hp; exact absurd rfl h0
    · cases hp
theorem asks_run (n : Nat) (cs : List Mv) : ∀ i, i ≤ cs.length → Asks (askI cs (codesM (ms0 n) cs) i) (stM (ms0 n) (cs.take i))
  | 0, _ => asks_zero n
  | i + 1, hi => by
    obtain ⟨c, hc⟩ := get_of_lt (xs := cs) (k := i) (by omega)
    rw [askI_succ hc (codes_at hc), stM_snoc hc]
    exact asks_step (asks_run n cs i (by omega)) c
theorem asks_all (n : Nat) (cs : List Mv) : Asks (askI cs (codesM (ms0 n) cs) cs.length) (stM (ms0 n) cs) := by
  have := asks_run n cs cs.length (Nat.le_refl _)
  rwa [List.take_length] at this
theorem askI_len (cs : List Mv) (ks : List Int) : ∀ i, (askI cs ks i).length ≤ i
  | 0 => Nat.le_refl _
  | i + 1 => by
    have ih := askI_len cs ks i
    simp only [askI]
    split
    · unfold askS
      split
      · omega
      · rw [List.length_append]
        split
        · simp only [List.length_singleton]; rename_i c k _ _ _ _; have := List.length_filter_le (fun x => decide (x ≠ c.who)) (askI cs ks i); omega
        · simp only [List.length_nil]; rename_i c k _ _ _ _; have := List.length_filter_le (fun x => decide (x ≠ c.who)) (askI cs ks i); omega
    · omega
theorem in_how {s : MS} {n x : Nat} (h : x ∈ inL s.ps n) : howof s x = 2 := by
  have := (List.mem_filter.1 h).2
  cases e : s.ps[x]? with
  | none => rw [e] at this; cases this
  | some p => rw [e] at this; rw [how_at e]; exact of_decide_eq_true this
theorem goes_in {n : Nat} {s : MS} {l : List Int} (h : InvM n s) (hn : n ≤ 6) (ha : Asks l s) (hq : ∀ k, s.q k = []) (hl : l ≠ []) : (inL s.ps n).length = 1 := by
  have h1 := inL_one h
  obtain ⟨x, hx⟩ := List.exists_mem_of_ne_nil l hl
  obtain ⟨i, rfl, hi⟩ := (ha x).1 hx
  obtain ⟨p, hp, hp0⟩ := how_some hi
  obtain ⟨j, r, hr, hr2⟩ := some_in h hn hq _ i p (Nat.lt_succ_self _) hp hp0
  have : j ∈ inL s.ps n := List.mem_filter.2 ⟨List.mem_range.2 (h.toN.idx hn hr).1, by rw [hr]; exact decide_eq_true hr2⟩
  have := List.length_pos_of_mem this
  omega
/-! a place in a list -/
def posI (x : Int) : List Int → Int
  | [] => -1
  | a :: l => if a = x then 0 else if posI x l < 0 then -1 else posI x l + 1
theorem pos_at {x : Int} : ∀ {l : List Int} {k : Nat}, (∀ q, q < k → l[q]? ≠ some x) → l[k]? = some x → posI x l = k
  | [], k, _, h => by cases h
  | a :: l, 0, _, h => by simp at h; subst h; simp [posI]
  | a :: l, k + 1, hn, h => by
    have h0 : a ≠ x := fun e => hn 0 (by omega) (by simp [e])
    have ih := pos_at (l := l) (k := k) (fun q hq => by have := hn (q + 1) (by omega); simpa using this) (by simpa using h)
    simp only [posI, if_neg h0, ih]; rw [if_neg (by omega)]; rfl
theorem pos_no {x : Int} : ∀ {l : List Int}, x ∉ l → posI x l = -1
  | [], _ => rfl
  | a :: l, h => by
    have h0 : a ≠ x := fun e => h (by simp [e])
    have := pos_no (l := l) fun q => h (List.mem_cons_of_mem _ q)
    simp only [posI, if_neg h0, this]; rfl
theorem pos_lo (x : Int) : ∀ l, -1 ≤ posI x l
  | [] => by simp [posI]
  | a :: l => by have := pos_lo x l; simp only [posI]; (repeat' split) <;> omega
theorem pos_hi (x : Int) : ∀ l : List Int, posI x l < l.length
  | [] => by simp [posI]
  | a :: l => by have := pos_hi x l; simp only [posI, List.length_cons]; (repeat' split) <;> omega
theorem pos_in {x : Int} : ∀ {l : List Int}, x ∈ l → 0 ≤ posI x l
  | a :: l, h => by
    simp only [posI]
    split
    · omega
    · rename_i h0
      have := pos_in (l := l) (by simpa [Ne.symm h0] using h)
      rw [if_neg (by omega)]; omega
theorem pos_first {x y : Int} {a b : List Int} (h : y ∉ a) (hne : x ≠ y) : posI y (a ++ x :: b) < 0 ∨ (0 ≤ posI x (a ++ x :: b) ∧ posI x (a ++ x :: b) < posI y (a ++ x :: b)) := by
  induction a with
  | nil =>
    have := pos_lo y b
    simp only [List.nil_append, posI, if_neg hne, if_pos]
    split
    · left; omega
    · right; omega
  | cons c a ih =>
    have h0 : c ≠ y := fun e => h (by simp [e])
    have ih := ih fun q => h (by simp [q])
    simp only [List.cons_append, posI, if_neg h0]
    by_cases e : c = x
    · rw [if_pos e]; split
      · left; omega
      · right; omega
    · rw [if_neg e]
      rcases ih with g | ⟨g1, g2⟩
      · left; rw [if_pos g]; omega
      · right; rw [if_neg (by omega), if_neg (by omega)]; omega
end Go.Proofs.Ytgfileonpoghmaa
