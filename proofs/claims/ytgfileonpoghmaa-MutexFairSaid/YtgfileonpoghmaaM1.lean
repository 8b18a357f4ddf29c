/- What is always so: at most one is inside. In plain words. No condition. -/
import Derived.Test.YtgfileonpoghmaaA5
namespace Go.Proofs.Ytgfileonpoghmaa
open Go.RowKit
set_option linter.unusedVariables false
set_option linter.unusedSimpArgs false
set_option maxRecDepth 100000

/-! counting -/
def cp (p : Nat → Bool) : Nat → Nat
  | 0 => 0
  | n + 1 => cp p n + (if p n then 1 else 0)
theorem cp_le (p : Nat → Bool) : ∀ n, cp p n ≤ n
  | 0 => Nat.le_refl _
  | n + 1 => by have := cp_le p n; simp only [cp]; split <;> omega
theorem cp_full {p : Nat → Bool} : ∀ {n : Nat}, cp p n = n → ∀ i, i < n → p i = true
  | 0, _, i, h => by omega
  | n + 1, h, i, hi => by
    have := cp_le p n
    simp only [cp] at h
    split at h
    · rename_i hn
      rcases Nat.lt_or_eq_of_le (Nat.le_of_lt_succ hi) with h1 | rfl
      · exact cp_full (by omega) i h1
      · exact hn
    · omega
theorem cp_all {p : Nat → Bool} : ∀ {n : Nat}, (∀ i, i < n → p i = true) → cp p n = n
  | 0, _ => rfl
  | n + 1, h => by simp only [cp]; rw [cp_all fun i hi => h i (by omega), if_pos (h n (by omega))]
theorem cp_congr {p q : Nat → Bool} : ∀ {n : Nat}, (∀ i, i < n → p i = q i) → cp p n = cp q n
  | 0, _ => rfl
  | n + 1, h => by simp only [cp]; rw [cp_congr fun i hi => h i (by omega), h n (by omega)]
theorem cp_one {i : Nat} : ∀ {n : Nat} {p : Nat → Bool}, i < n → (∀ j, j < n → (p j = true ↔ j = i)) → cp p n = 1
  | 0, _, h, _ => by omega
  | n + 1, p, h, hp => by
    simp only [cp]
    by_cases e : i = n
    · subst e
      rw [(hp i (by omega)).2 rfl]
      have : cp p i = 0 := by
        have h0 : cp p i = cp (fun _ => false) i := cp_congr fun j hj => by
          cases e : p j
          · rfl
          · have := (hp j (by omega)).1 e; omega
        have h1 : ∀ k, cp (fun _ => false) k = 0 := fun k => by induction k with | zero => rfl | succ k ih => simp [cp, ih]
        rw [h0, h1]
      rw [this]; rfl
    · have : p n = false := by
        cases e2 : p n
        · rfl
        · exact absurd ((hp n (by omega)).1 e2).symm e
      rw [this, cp_one (by omega) fun j hj => hp j (by omega)]; rfl
theorem cp_add {p q : Nat → Bool} {k : Nat} : ∀ {n : Nat}, k < n → p k = false → q k = true → (∀ i, i < n → i ≠ k → q i = p i) → cp q n = cp p n + 1
  | 0, h, _, _, _ => by omega
  | n + 1, h, hp, hk, hq => by
    simp only [cp]
    by_cases e : k = n
    · subst e
      rw [hk, hp, cp_congr (q := p) fun i hi => hq i (by omega) (by omega)]; simp
    · rw [cp_add (by omega) hp hk fun i hi hne => hq i (by omega) hne, hq n (by omega) (fun h => e h.symm)]; omega
/-! what is always so -/
def nz (l : List Nat) : Nat := (l.filter fun x => decide (x ≠ 0)).length
def zz (l : List Nat) : Nat := (l.filter fun x => decide (x = 0)).length
theorem nz_app (l l' : List Nat) : nz (l ++ l') = nz l + nz l' := by simp [nz]
theorem zz_app (l l' : List Nat) : zz (l ++ l') = zz l + zz l' := by simp [zz]
theorem nz_one {x : Nat} (h : x ≠ 0) : nz [x] = 1 := by simp [nz, h]
theorem zz_one {x : Nat} (h : x ≠ 0) : zz [x] = 0 := by simp [zz, h]
theorem nz_cons (x : Nat) (l : List Nat) : nz (x :: l) = (if x = 0 then 0 else 1) + nz l := by by_cases h : x = 0 <;> simp [nz, h]; omega
theorem zz_cons (x : Nat) (l : List Nat) : zz (x :: l) = (if x = 0 then 1 else 0) + zz l := by by_cases h : x = 0 <;> simp [zz, h]; omega
theorem nz_rep (k : Nat) : nz (List.replicate k 0) = 0 := by simp [nz]
theorem zz_rep (k : Nat) : zz (List.replicate k 0) = k := by simp [zz]
def less (a i b j : Nat) : Prop := a < b ∨ (a = b ∧ i < j)
abbrev Q (s : MS) (i j : Nat) : List Nat := s.q (smN i, smN j)
structure PairI (i j : Nat) (p r : Pq) (qij qji : List Nat) : Prop where
  one : p.how = 1 → nz qij + zz qji + r.waits.count i ≤ 1
  none : p.how ≠ 1 → nz qij + zz qji + r.waits.count i = 0
  val : ∀ x ∈ qij, x ≠ 0 → x = p.key
  ans : p.how ≠ 0 → nz qij = 0 → r.waits.count i = 0 → p.key ≤ r.n ∧ (r.how ≠ 0 → less p.key i r.key j)
  wai : r.waits.count i ≠ 0 → p.key ≤ r.n ∧ (r.how = 2 ∨ (r.how = 1 ∧ less r.key j p.key i))
def waitsOf (s : MS) (j : Nat) : List Nat := ((s.ps[j]?).map Pq.waits).getD []
def pend (s : MS) (i j : Nat) : Nat := nz (Q s i j) + zz (Q s j i) + (waitsOf s j).count i
theorem waits_at {s : MS} {j : Nat} {r : Pq} (h : s.ps[j]? = some r) : waitsOf s j = r.waits := by unfold waitsOf; rw [h]; rfl
structure InvM (n : Nat) (s : MS) : Prop where
  len : s.ps.length = n
  own : ∀ (i : Nat) (p : Pq), s.ps[i]? = some p → p.key ≤ p.n ∧ (p.how ≠ 0 → 1 ≤ p.key) ∧ p.how ≤ 2 ∧ ∀ j ∈ p.waits, j < n ∧ j ≠ i
  pair : ∀ (i j : Nat) (p r : Pq), i ≠ j → s.ps[i]? = some p → s.ps[j]? = some r → PairI i j p r (Q s i j) (Q s j i)
  yes : ∀ (i : Nat) (p : Pq), s.ps[i]? = some p → p.how = 1 → cp (fun j => decide (j = i ∨ pend s i j = 0)) n = p.yes + 1
  out : ∀ (i : Nat) (p : Pq), s.ps[i]? = some p → p.how = 1 → p.yes + 1 ≠ n
/-- the same, but for that one may go in -/
structure InvN (n : Nat) (s : MS) : Prop where
  len : s.ps.length = n
  own : ∀ (i : Nat) (p : Pq), s.ps[i]? = some p → p.key ≤ p.n ∧ (p.how ≠ 0 → 1 ≤ p.key) ∧ p.how ≤ 2 ∧ ∀ j ∈ p.waits, j < n ∧ j ≠ i
  pair : ∀ (i j : Nat) (p r : Pq), i ≠ j → s.ps[i]? = some p → s.ps[j]? = some r → PairI i j p r (Q s i j) (Q s j i)
  yes : ∀ (i : Nat) (p : Pq), s.ps[i]? = some p → p.how = 1 → cp (fun j => decide (j = i ∨ pend s i j = 0)) n = p.yes + 1
theorem one_in {n : Nat} {s : MS} (h : InvN n s) {i j : Nat} {p r : Pq} (hi : s.ps[i]? = some p) (hj : s.ps[j]? = some r) (h1 : p.how = 2) (h2 : r.how = 2) : i = j := by
  refine Classical.byContradiction fun hne => ?_
  have e1 := h.pair i j p r hne hi hj
  have e2 := h.pair j i r p (Ne.symm hne) hj hi
  have f1 := e1.none (by omega)
  have f2 := e2.none (by omega)
  have g1 := (e1.ans (by omega) (by omega) (by omega)).2 (by omega)
  have g2 := (e2.ans (by omega) (by omega) (by omega)).2 (by omega)
  unfold less at g1 g2; omega
theorem smN_inj {i j : Nat} (hi : i < 2048) (hj : j < 2048) (h : smN i = smN j) : i = j := by
  have := congrArg Fin.val h
  rwa [smN_val hi, smN_val hj] at this
theorem upW_at {q : Wy} {k : Sm × Sm} {l : List Nat} {k' : Sm × Sm} : upW q k l k' = if k' = k then l else q k' := rfl
theorem sendW_at {q : Wy} {i j x a b : Nat} (hi : i < 2048) (hj : j < 2048) (ha : a < 2048) (hb : b < 2048) : sendW q i j x (smN a, smN b) = if a = i ∧ b = j then q (smN a, smN b) ++ [x] else q (smN a, smN b) := by
  unfold sendW
  rw [upW_at]
  by_cases h : a = i ∧ b = j
  · obtain ⟨rfl, rfl⟩ := h; rw [if_pos rfl, if_pos ⟨rfl, rfl⟩]
  · rw [if_neg h, if_neg]
    intro e
    have := Prod.ext_iff.1 e
    exact h ⟨smN_inj ha hi this.1, smN_inj hb hj this.2⟩
theorem tellW_get {q : Wy} {i x a b : Nat} (hi : i < 2048) (ha : a < 2048) (hb : b < 2048) : ∀ {k : Nat}, k < 2048 → tellW q i x k (smN a, smN b) = if a = i ∧ b ≠ i ∧ b < k then q (smN a, smN b) ++ [x] else q (smN a, smN b)
  | 0, _ => by rw [if_neg (by omega)]; rfl
  | k + 1, hk => by
    have ih := tellW_get (q := q) (x := x) hi ha hb (k := k) (by omega)
    rw [tellW_at]
    by_cases e : k = i
    · rw [if_pos e, ih]
      by_cases h : a = i ∧ b ≠ i ∧ b < k
      · rw [if_pos h, if_pos (by omega)]
      · rw [if_neg h, if_neg (by omega)]
    · rw [if_neg e, sendW_at hi (by omega) ha hb, ih]
      by_cases h : a = i ∧ b = k
      · rw [if_pos h, if_neg (by omega), if_pos (by omega)]
      · rw [if_neg h]
        by_cases h2 : a = i ∧ b ≠ i ∧ b < k
        · rw [if_pos h2, if_pos (by omega)]
        · rw [if_neg h2, if_neg (by omega)]
theorem yesW_get {i a b : Nat} (hi : i < 2048) (ha : a < 2048) (hb : b < 2048) : ∀ (l : List Nat) {q : Wy}, (∀ j ∈ l, j < 2048) → yesW q i l (smN a, smN b) = if a = i then q (smN a, smN b) ++ List.replicate (l.count b) 0 else q (smN a, smN b)
  | [], q, _ => by simp [yesW]
  | j :: l, q, hl => by
    have hj := hl j (by simp)
    have ih := yesW_get hi ha hb l (q := sendW q i j 0) fun j hj => hl j (by simp [hj])
    show yesW (sendW q i j 0) i l (smN a, smN b) = _
    rw [ih, sendW_at hi hj ha hb]
    by_cases e : a = i
    · rw [if_pos e, if_pos e]
      by_cases e2 : b = j
      · subst e2
        rw [if_pos ⟨e, rfl⟩, List.count_cons_self, List.append_assoc, List.replicate_succ]; rfl
      · rw [if_neg (by omega), List.count_cons_of_ne (fun h => e2 h.symm)]
    · rw [if_neg e, if_neg e, if_neg (by omega)]
theorem set_cases {l : List Pq} {i j : Nat} {x y : Pq} (h : (l.set i x)[j]? = some y) : (j = i ∧ y = x) ∨ (j ≠ i ∧ l[j]? = some y) := by
  by_cases e : i = j
  · subst e
    have hl := (List.getElem?_eq_some_iff.1 h).1
    rw [List.length_set] at hl
    rw [List.getElem?_set_self hl] at h; cases h; exact .inl ⟨rfl, rfl⟩
  · rw [List.getElem?_set_ne e] at h; exact .inr ⟨Ne.symm e, h⟩
theorem InvN.enter {n i : Nat} {s : MS} (h : InvN n s) (hout : ∀ (j : Nat) (p : Pq), j ≠ i → s.ps[j]? = some p → p.how = 1 → p.yes + 1 ≠ n) : InvM n (enterM s i) := by
  unfold enterM
  split
  · rename_i p hp
    split
    · rename_i hc
      have hlen := h.len
      have hil := (List.getElem?_eq_some_iff.1 hp).1
      have hfull := cp_full (show cp (fun j => decide (j = i ∨ pend s i j = 0)) n = n by rw [h.yes i p hp hc.1]; omega)
      have hpend : ∀ j r, j ≠ i → s.ps[j]? = some r → nz (Q s i j) + zz (Q s j i) + r.waits.count i = 0 := fun j r hj hr => by
        have := of_decide_eq_true (hfull j (by rw [← hlen]; exact (List.getElem?_eq_some_iff.1 hr).1))
        rcases this with e | e
        · exact absurd e hj
        · unfold pend at e; rwa [waits_at hr] at e
      have hw : ∀ a, waitsOf { s with ps := s.ps.set i { p with how := 2 }, ins := s.ins ++ [i] } a = waitsOf s a := fun a => by
        unfold waitsOf
        by_cases e : i = a
        · subst e; dsimp only; rw [List.getElem?_set_self hil, hp]; rfl
        · dsimp only; rw [List.getElem?_set_ne e]
      refine ⟨by show (s.ps.set i _).length = n; rw [List.length_set]; exact hlen, fun j r hr => ?_, fun a b x y hab hx hy => ?_, fun j r hr h1 => ?_, fun j r hr h1 => ?_⟩
      · rcases set_cases hr with ⟨rfl, rfl⟩ | ⟨hne, hr⟩
        · obtain ⟨o1, o2, o3, o4⟩ := h.own _ p hp
          exact ⟨o1, fun _ => o2 (by omega), Nat.le_refl _, o4⟩
        · exact h.own j r hr
      · rcases set_cases hx with ⟨rfl, rfl⟩ | ⟨hna, hx'⟩
        · rcases set_cases hy with ⟨rfl, rfl⟩ | ⟨hnb, hy'⟩
          · exact absurd rfl hab
          · have e := h.pair _ _ p y hab hp hy'
            refine ⟨fun q => (by cases q), fun _ => hpend b y hnb hy', e.val, fun _ q1 q2 => e.ans (by omega) q1 q2, e.wai⟩
        · rcases set_cases hy with ⟨rfl, rfl⟩ | ⟨hnb, hy'⟩
          · have e := h.pair _ _ x p hab hx' hp
            exact ⟨e.one, e.none, e.val, fun q0 q1 q2 => ⟨(e.ans q0 q1 q2).1, fun _ => (e.ans q0 q1 q2).2 (by omega)⟩, fun q => ⟨(e.wai q).1, .inl rfl⟩⟩
          · exact h.pair a b x y hab hx' hy'
      · rcases set_cases hr with ⟨rfl, rfl⟩ | ⟨hne, hr⟩
        · cases h1
        · rw [← h.yes j r hr h1]
          refine cp_congr fun k hk => ?_
          unfold pend; rw [hw]
      · rcases set_cases hr with ⟨rfl, rfl⟩ | ⟨hne, hr⟩
        · cases h1
        · exact hout j r hne hr h1
    · rename_i hc
      refine ⟨h.len, h.own, h.pair, h.yes, fun j p' hp' h1 => ?_⟩
      by_cases e : j = i
      · subst e
        cases hp.symm.trans hp'
        rw [h.len] at hc; exact fun e => hc ⟨h1, e⟩
      · exact hout j p' e hp' h1
  · rename_i hno
    refine ⟨h.len, h.own, h.pair, h.yes, fun j p' hp' h1 => ?_⟩
    by_cases e : j = i
    · subst e; rw [hno] at hp'; cases hp'
    · exact hout j p' e hp' h1
theorem InvM.toN {n : Nat} {s : MS} (h : InvM n s) : InvN n s := ⟨h.len, h.own, h.pair, h.yes⟩
end Go.Proofs.Ytgfileonpoghmaa
