/- Who reaches whom. Plain words. No condition. -/
import Derived.Test.YtplcflifofomjaaM1
namespace Go.Proofs.Ytplcflifofomjaa
open Go.RowKit
set_option linter.unusedVariables false
set_option linter.unusedSimpArgs false
set_option maxRecDepth 100000

/-! who waits for whom, at once or by others -/
def Edge (l : List Nd) (i k : Nat) : Prop := ∃ x ∈ l, x.who.toNat = i ∧ ∃ z ∈ x.fr, z.toNat = k
inductive Rch (l : List Nd) : Nat → Nat → Prop
  | one {i k : Nat} : Edge l i k → Rch l i k
  | step {i k j : Nat} : Edge l i k → Rch l k j → Rch l i j
theorem Rch.trans {l : List Nd} {i k j : Nat} (h : Rch l i k) (h' : Rch l k j) : Rch l i j := by
  induction h with
  | one e => exact .step e h'
  | step e _ ih => exact .step e (ih h')
theorem Edge.lt {n i k : Nat} {l : List Nd} (hk : OkN (n : Int) l) (h : Edge l i k) : i < n ∧ k < n := by
  obtain ⟨x, hx, rfl, z, hz, rfl⟩ := h
  have h1 := (hk.el x hx).w0; have h2 := (hk.el x hx).w1; have h3 := (hk.el x hx).fr z hz
  omega
theorem Rch.lt {n i k : Nat} {l : List Nd} (hk : OkN (n : Int) l) (h : Rch l i k) : i < n ∧ k < n := by
  induction h with
  | one e => exact e.lt hk
  | step e _ ih => exact ⟨(e.lt hk).1, ih.2⟩
/-- by those below k alone -/
def Pk (l : List Nd) : Nat → Nat → Nat → Prop
  | 0, i, j => Edge l i j
  | k + 1, i, j => Pk l k i j ∨ (Pk l k i k ∧ Pk l k k j)
theorem Pk.rch {l : List Nd} : ∀ {k i j : Nat}, Pk l k i j → Rch l i j
  | 0, _, _, h => .one h
  | k + 1, _, _, h => by
    rcases h with h | ⟨h1, h2⟩
    · exact Pk.rch h
    · exact (Pk.rch h1).trans (Pk.rch h2)
theorem Pk.trans {l : List Nd} : ∀ {k m i j : Nat}, m < k → Pk l k i m → Pk l k m j → Pk l k i j
  | 0, m, _, _, h, _, _ => absurd h (Nat.not_lt_zero _)
  | k + 1, m, i, j, h, h1, h2 => by
    by_cases e : m = k
    · subst e
      have q1 : Pk l m i m := by rcases h1 with h1 | h1; exact h1; exact h1.1
      have q2 : Pk l m m j := by rcases h2 with h2 | h2; exact h2; exact h2.2
      exact .inr ⟨q1, q2⟩
    · have hm : m < k := by omega
      rcases h1 with h1 | ⟨h1, h3⟩
      · rcases h2 with h2 | ⟨h2, h4⟩
        · exact .inl (Pk.trans hm h1 h2)
        · exact .inr ⟨Pk.trans hm h1 h2, h4⟩
      · rcases h2 with h2 | ⟨h2, h4⟩
        · exact .inr ⟨h1, Pk.trans hm h3 h2⟩
        · exact .inr ⟨h1, h4⟩
theorem Pk.mono {l : List Nd} {i j : Nat} (h : Edge l i j) : ∀ k, Pk l k i j
  | 0 => h
  | k + 1 => .inl (Pk.mono h k)
theorem Rch.pk {n i j : Nat} {l : List Nd} (hk : OkN (n : Int) l) (h : Rch l i j) : Pk l n i j := by
  induction h with
  | one e => exact Pk.mono e n
  | step e _ ih => exact Pk.trans (e.lt hk).2 (Pk.mono e n) ih
/-! the table -/
theorem ix_lt {n i j : Nat} (hi : i < n) (hj : j < n) : i * n + j < n * n := by
  have : i * n + n ≤ n * n := by rw [← Nat.succ_mul]; exact Nat.mul_le_mul_right n hi
  omega
theorem ix_inj {n i j i' j' : Nat} (hj : j < n) (hj' : j' < n) (e : i * n + j = i' * n + j') : i = i' ∧ j = j' := by
  have h1 : (i * n + j) / n = i := by rw [Nat.mul_comm, Nat.mul_add_div (by omega), Nat.div_eq_of_lt hj]; rfl
  have h2 : (i' * n + j') / n = i' := by rw [Nat.mul_comm, Nat.mul_add_div (by omega), Nat.div_eq_of_lt hj']; rfl
  have h3 : i = i' := by rw [← h1, ← h2, e]
  subst h3
  exact ⟨rfl, by omega⟩
structure WRel (n : Nat) (l : List Nd) (w : List Bool) : Prop where
  len : w.length = n * n
  sound : ∀ p, onF w p → ∃ i j, i < n ∧ j < n ∧ p = i * n + j ∧ Rch l i j
theorem on_set {w : List Bool} {p q : Nat} (h : onF w p) : onF (w.set q true) p := by
  unfold onF at *; rw [getD_setB]; split
  · rfl
  · exact h
theorem on_self {w : List Bool} {q : Nat} (h : q < w.length) : onF (w.set q true) q := by
  unfold onF; rw [getD_setB, if_pos ⟨rfl, h⟩]
theorem on_of {w : List Bool} {p : Nat} {b : Bool} (h : w[p]? = some b) : onF w p ↔ b = true := by unfold onF; rw [getD_of h]
theorem WRel.set {n i j : Nat} {l : List Nd} {w : List Bool} (h : WRel n l w) (hi : i < n) (hj : j < n) (hr : Rch l i j) : WRel n l (w.set (i * n + j) true) :=
  ⟨by rw [List.length_set]; exact h.len, fun p hp => by
    unfold onF at hp
    rw [getD_setB] at hp
    split at hp
    · rename_i e; exact ⟨i, j, hi, hj, e.1.symm, hr⟩
    · exact h.sound p hp⟩
theorem WRel.get {n i j : Nat} {l : List Nd} {w : List Bool} (h : WRel n l w) (hj : j < n) (ho : onF w (i * n + j)) : Rch l i j := by
  obtain ⟨i', j', h1, h2, h3, h4⟩ := h.sound _ ho
  obtain ⟨rfl, rfl⟩ := ix_inj hj h2 h3
  exact h4
theorem WRel.zero (n : Nat) (l : List Nd) : WRel n l (List.replicate (n * n) false) := ⟨by simp, fun p hp => by
  unfold onF at hp
  rw [List.getD_eq_getElem?_getD, List.getElem?_replicate] at hp
  split at hp <;> cases hp⟩
/-- the table, whole -/
structure WR (n : Nat) (l : List Nd) (w : List Bool) : Prop where
  len : w.length = n * n
  on : ∀ i j, i < n → j < n → (onF w (i * n + j) ↔ Rch l i j)
theorem WRel.whole {n : Nat} {l : List Nd} {w : List Bool} (hk : OkN (n : Int) l) (h : WRel n l w) (hp : ∀ i j, i < n → j < n → Pk l n i j → onF w (i * n + j)) : WR n l w :=
  ⟨h.len, fun i j hi hj => ⟨fun ho => h.get hj ho, fun hr => hp i j hi hj (hr.pk hk)⟩⟩
/-! each for one of some -/
def Wt (l : List Nd) (i : Nat) : Prop := ∃ x ∈ l, x.who.toNat = i
theorem any_free {n i : Nat} {l : List Nd} (hk : OkN (n : Int) l) (hn : ∀ x ∈ l, x.all = false) (hi : i < n) : isF n l i ↔ ¬ Wt l i ∨ ∃ j, j < n ∧ Rch l i j ∧ ¬ Wt l j := by
  constructor
  · intro h
    refine free_least (S := fun i => ¬ Wt l i ∨ ∃ j, j < n ∧ Rch l i j ∧ ¬ Wt l j) (fun x hx hc => ?_) (fun i _ hno => .inl fun ⟨x, hx, e⟩ => hno x hx e) h
    rcases hc with ⟨h1, _⟩ | ⟨_, k, h1, h2⟩
    · rw [hn x hx] at h1; cases h1
    · have he : Edge l x.who.toNat k.toNat := ⟨x, hx, rfl, k, h1, rfl⟩
      rcases h2 with h2 | ⟨j, h2, h3, h4⟩
      · exact .inr ⟨k.toNat, (he.lt hk).2, .one he, h2⟩
      · exact .inr ⟨j, h2, .step he h3, h4⟩
  · have one : ∀ {i k : Nat}, Edge l i k → isF n l k → isF n l i := fun {i k} ⟨x, hx, e1, z, hz, e2⟩ hf => by
      subst e1; subst e2
      exact free_closed hk hx (.inr ⟨hn x hx, z, hz, hf⟩)
    have none : ∀ {i : Nat}, i < n → ¬ Wt l i → isF n l i := fun {i} hi h => free_none hi fun x hx e => h ⟨x, hx, e⟩
    rintro (h | ⟨j, hj, hr, hw⟩)
    · exact none hi h
    · have hfj := none hj hw
      clear hi
      induction hr with
      | one e => exact one e hfj
      | step e _ ih => exact one e (ih hj hw hfj)
/-! each for all of some -/
theorem nodup_len : ∀ {k : Nat} {l : List Nat}, l.Nodup → (∀ x ∈ l, x < k) → l.length ≤ k
  | 0, [], _, _ => Nat.le_refl _
  | 0, x :: l, _, h => by have := h x (by simp); omega
  | k + 1, l, hn, h => by
    have h1 : (l.erase k).length ≤ k := nodup_len (hn.erase k) fun x hx => by
      have h2 := h x (List.mem_of_mem_erase hx)
      have h3 : x ≠ k := ((List.Nodup.mem_erase_iff hn).1 hx).1
      omega
    have := List.length_erase (a := k) (l := l)
    split at this <;> omega
theorem pigeon {n : Nat} {s : Nat → Nat} (h : ∀ a, s a < n) : ∃ a b, a < b ∧ s a = s b := by
  refine Classical.byContradiction fun hno => ?_
  have hn : ((List.range (n + 1)).map s).Nodup := by
    rw [List.nodup_iff_pairwise_ne, List.pairwise_map]
    exact List.pairwise_lt_range.imp fun {a b} hab e => hno ⟨a, b, hab, e⟩
  have := nodup_len hn fun x hx => by obtain ⟨a, _, rfl⟩ := List.mem_map.1 hx; exact h a
  simp at this
  omega
open Classical in
noncomputable def nxt (n : Nat) (l : List Nd) (i : Nat) : Nat := if h : ∃ k, Edge l i k ∧ ¬ isF n l k then h.choose else i
theorem nxt_spec {n i : Nat} {l : List Nd} (hk : OkN (n : Int) l) (hn : ∀ x ∈ l, x.all = true) (hi : i < n) (h : ¬ isF n l i) : Edge l i (nxt n l i) ∧ ¬ isF n l (nxt n l i) := by
  have hex : ∃ k, Edge l i k ∧ ¬ isF n l k := Classical.byContradiction fun hno => h (by
    by_cases hw : Wt l i
    · obtain ⟨x, hx, rfl⟩ := hw
      exact free_closed hk hx (.inl ⟨hn x hx, fun k hk => Classical.byContradiction fun hf => hno ⟨_, ⟨x, hx, rfl, k, hk, rfl⟩, hf⟩⟩)
    · exact free_none hi fun x hx e => hw ⟨x, hx, e⟩)
  unfold nxt
  rw [dif_pos hex]
  exact hex.choose_spec
noncomputable def iter (n : Nat) (l : List Nd) (i : Nat) : Nat → Nat
  | 0 => i
  | a + 1 => nxt n l (iter n l i a)
theorem all_free {n i : Nat} {l : List Nd} (hk : OkN (n : Int) l) (hn : ∀ x ∈ l, x.all = true) (hi : i < n) : ¬ isF n l i ↔ ∃ j, j < n ∧ Rch l j j ∧ (j = i ∨ Rch l i j) := by
  constructor
  · intro h
    have hs : ∀ a, iter n l i a < n ∧ ¬ isF n l (iter n l i a) := fun a => by
      induction a with
      | zero => exact ⟨hi, h⟩
      | succ a ih => have := nxt_spec hk hn ih.1 ih.2; exact ⟨(this.1.lt hk).2, this.2⟩
    have hr : ∀ a d, Rch l (iter n l i a) (iter n l i (a + d + 1)) := fun a d => by
      induction d with
      | zero => exact .one (nxt_spec hk hn (hs a).1 (hs a).2).1
      | succ d ih => exact ih.trans (.one (nxt_spec hk hn (hs (a + d + 1)).1 (hs (a + d + 1)).2).1)
    obtain ⟨a, b, hab, e⟩ := pigeon (fun a => (hs a).1)
    have h1 := hr a (b - a - 1)
    rw [show a + (b - a - 1) + 1 = b by omega, ← e] at h1
    refine ⟨iter n l i a, (hs a).1, h1, ?_⟩
    cases a with
    | zero => exact .inl rfl
    | succ a => right; have := hr 0 a; rwa [show 0 + a + 1 = a + 1 by omega] at this
  · rintro ⟨j, hj, hjj, hij⟩ hf
    refine free_least (S := fun i => ¬ ∃ j, Rch l j j ∧ (j = i ∨ Rch l i j)) (fun x hx hc => ?_) (fun i _ hno => ?_) hf ⟨j, hjj, hij⟩
    · rintro ⟨j, h1, h2⟩
      have hwj : Rch l x.who.toNat j := by rcases h2 with rfl | h2; exact h1; exact h2
      rcases hc with ⟨_, hc⟩ | ⟨h3, _⟩
      · have key : ∀ k, Edge l x.who.toNat k → (k = j ∨ Rch l k j) → False := fun k ⟨y, hy, e1, z, hz, e2⟩ hkj => by
          have := hk.who_inj' hy hx e1
          subst this; subst e2
          exact hc z hz ⟨j, h1, hkj.imp Eq.symm id⟩
        cases hwj with
        | one e => exact key _ e (.inl rfl)
        | step e hr => exact key _ e (.inr hr)
      · rw [hn x hx] at h3; cases h3
    · rintro ⟨j, h1, h2⟩
      have hwj : Rch l i j := by rcases h2 with rfl | h2; exact h1; exact h2
      have : ∀ k, ¬ Edge l i k := fun k ⟨y, hy, e1, _⟩ => hno y hy e1
      cases hwj with
      | one e => exact this _ e
      | step e hr => exact this _ e
/-! the search for a round -/
def mkd (ms : List (Nat × Nat)) (k : Nat) : Prop := (getM ms k).isSome
def unm (n : Nat) (ms : List (Nat × Nat)) : Nat := (List.range n).countP (fun k => !(getM ms k).isSome)
structure BdS (n : Nat) (ms : List (Nat × Nat)) (c : Nat) : Prop where
  le : 144 * unm n ms ≤ c
  el : ∀ k v, getM ms k = some v → k < n ∧ 1 ≤ v ∧ v + 144 * unm n ms ≤ c
  ln : ms.length + unm n ms ≤ n
structure DfsR (n : Nat) (l : List Nd) (i j : Nat) (ms ms' : List (Nat × Nat)) (r : Bool) : Prop where
  mono : ∀ k, mkd ms k → mkd ms' k
  yes : r = true → Rch l j i
  no : r = false → (∀ k, Edge l j k → mkd ms' k ∧ k ≠ i) ∧ ∀ v, mkd ms' v → ¬ mkd ms v → ∀ k, Edge l v k → mkd ms' k ∧ k ≠ i
theorem mkd_put {ms : List (Nat × Nat)} {a x k : Nat} : mkd (putM ms a x) k ↔ k = a ∨ mkd ms k := by
  unfold mkd; rw [getM_put]
  by_cases e : a = k
  · subst e; simp
  · simp [e]; intro h; exact absurd h.symm e
theorem countP_one {p q : Nat → Bool} {a : Nat} : ∀ {l : List Nat}, l.Nodup → a ∈ l → p a = true → q a = false → (∀ x, x ≠ a → p x = q x) → l.countP q + 1 = l.countP p
  | [], _, h, _, _, _ => by cases h
  | x :: l, hn, ha, hp, hq, he => by
    obtain ⟨h1, h2⟩ := List.nodup_cons.1 hn
    by_cases e : x = a
    · subst e
      rw [List.countP_cons_of_pos hp, List.countP_cons_of_neg (by rw [hq]; decide)]
      have : l.countP q = l.countP p := List.countP_congr fun y hy => by rw [he y fun e => h1 (e ▸ hy)]
      rw [this]
    · have ih := countP_one h2 ((List.mem_cons.1 ha).resolve_left fun h => e h.symm) hp hq he
      rw [List.countP_cons, List.countP_cons, he x e]; omega
theorem unm_put {n a x : Nat} {ms : List (Nat × Nat)} : (mkd ms a → unm n (putM ms a x) = unm n ms) ∧ (¬ mkd ms a → a < n → unm n (putM ms a x) + 1 = unm n ms) := by
  have hg : ∀ k, (getM (putM ms a x) k).isSome = (decide (k = a) || (getM ms k).isSome) := fun k => by
    rw [getM_put]
    by_cases e : a = k
    · subst e; simp
    · have : ¬ k = a := fun h => e h.symm
      simp [e, this]
  constructor
  · intro h
    unfold unm
    refine List.countP_congr fun k _ => ?_
    rw [hg]
    by_cases e : k = a
    · subst e; unfold mkd at h; simp [h]
    · simp [e]
  · intro h ha
    unfold unm
    refine countP_one (a := a) List.nodup_range (List.mem_range.2 ha) ?_ ?_ fun k hk => ?_
    · unfold mkd at h; simpa using h
    · rw [hg]; simp
    · rw [hg]; simp [hk]
theorem getM_len {ms : List (Nat × Nat)} {a x : Nat} (h : ¬ mkd ms a) : (putM ms a x).length = ms.length + 1 := by
  rw [putM_length]; unfold mkd at h; rw [if_neg h]
theorem BdS.old {n c a v : Nat} {ms : List (Nat × Nat)} (h : BdS n ms c) (ha : getM ms a = some v) : BdS n (putM ms a (v + 1)) (c + 1) := by
  have hm : mkd ms a := by unfold mkd; rw [ha]; rfl
  have hu := (unm_put (n := n) (x := v + 1)).1 hm
  have h1 := h.el a v ha
  refine ⟨by rw [hu]; have := h.le; omega, fun k w hk => ?_, ?_⟩
  · rw [hu]
    rw [getM_put] at hk
    split at hk
    · rename_i e; subst e; cases hk; omega
    · have := h.el k w hk; omega
  · rw [putM_length, ha, hu]; exact h.ln
theorem BdS.new {n c a : Nat} {ms : List (Nat × Nat)} (h : BdS n ms c) (ha : ¬ mkd ms a) (hn : a < n) : 144 ≤ c ∧ BdS n (putM ms a 1) (c + 1 - 144) := by
  have hu := (unm_put (n := n) (x := 1)).2 ha hn
  have hle := h.le
  refine ⟨by omega, by omega, fun k w hk => ?_, ?_⟩
  · rw [getM_put] at hk
    split at hk
    · rename_i e; subst e; cases hk; omega
    · have := h.el k w hk; omega
  · rw [getM_len ha]; have := h.ln; omega
theorem BdS.mono {n c c' : Nat} {ms : List (Nat × Nat)} (h : BdS n ms c) (hc : c ≤ c') : BdS n ms c' := ⟨by have := h.le; omega, fun k v hk => by have := h.el k v hk; omega, h.ln⟩
theorem BdS.zero (n : Nat) : BdS n [] (144 * n) := by
  have : unm n [] = n := by
    show List.countP (fun _ => true) (List.range n) = n
    simp
  exact ⟨by rw [this]; exact Nat.le_refl _, fun k v hk => by simp [getM] at hk, by rw [this]; simp⟩
/-- within a search: what was seen of the ways from j -/
structure DfsI (l : List Nd) (i j : Nat) (ms ms' : List (Nat × Nat)) (S : Nat → Prop) : Prop where
  mono : ∀ k, mkd ms k → mkd ms' k
  seen : ∀ k, S k → mkd ms' k ∧ k ≠ i
  done : ∀ v, mkd ms' v → ¬ mkd ms v → ∀ k, Edge l v k → mkd ms' k ∧ k ≠ i
theorem DfsI.zero (l : List Nd) (i j : Nat) (ms : List (Nat × Nat)) {S : Nat → Prop} (hS : ∀ k, ¬ S k) : DfsI l i j ms ms S := ⟨fun k h => h, fun k h => absurd h (hS k), fun v h h' => absurd h h'⟩
theorem DfsI.old {l : List Nd} {i j a x : Nat} {ms ms' : List (Nat × Nat)} {S S' : Nat → Prop} (h : DfsI l i j ms ms' S) (ha : mkd ms' a) (hai : a ≠ i) (hS : ∀ k, S' k → S k ∨ k = a) : DfsI l i j ms (putM ms' a x) S' := by
  have hm : ∀ k, mkd (putM ms' a x) k ↔ mkd ms' k := fun k => by
    rw [mkd_put]; exact ⟨fun q => q.elim (fun e => e ▸ ha) id, .inr⟩
  refine ⟨fun k hk => (hm k).2 (h.mono k hk), fun k hk => ?_, fun v hv hv' k hk => ?_⟩
  · rcases hS k hk with q | rfl
    · have := h.seen k q; exact ⟨(hm k).2 this.1, this.2⟩
    · exact ⟨(hm k).2 ha, hai⟩
  · have := h.done v ((hm v).1 hv) hv' k hk; exact ⟨(hm k).2 this.1, this.2⟩
theorem DfsI.new {n : Nat} {l : List Nd} {i j a x : Nat} {ms ms' ms'' : List (Nat × Nat)} {S S' : Nat → Prop} (h : DfsI l i j ms ms' S) (hai : a ≠ i) (hr : DfsR n l i a (putM ms' a x) ms'' false) (hS : ∀ k, S' k → S k ∨ k = a) : DfsI l i j ms ms'' S' := by
  obtain ⟨h1, h2⟩ := hr.no rfl
  have hup : ∀ k, mkd ms' k → mkd ms'' k := fun k hk => hr.mono k (mkd_put.2 (.inr hk))
  refine ⟨fun k hk => hup k (h.mono k hk), fun k hk => ?_, fun v hv hv' k hk => ?_⟩
  · rcases hS k hk with q | rfl
    · have := h.seen k q; exact ⟨hup k this.1, this.2⟩
    · exact ⟨hr.mono _ (mkd_put.2 (.inl rfl)), hai⟩
  · by_cases c : mkd (putM ms' a x) v
    · rcases mkd_put.1 c with rfl | q
      · exact h1 k hk
      · have := h.done v q hv' k hk; exact ⟨hup k this.1, this.2⟩
    · exact h2 v hv c k hk
theorem DfsI.fin {n : Nat} {l : List Nd} {i j : Nat} {ms ms' : List (Nat × Nat)} {S : Nat → Prop} (h : DfsI l i j ms ms' S) (hS : ∀ k, Edge l j k → S k) : DfsR n l i j ms ms' false :=
  ⟨h.mono, fun h => (by cases h), fun _ => ⟨fun k hk => h.seen k (hS k hk), h.done⟩⟩
theorem DfsI.mono' {l : List Nd} {i j : Nat} {ms ms' : List (Nat × Nat)} {S S' : Nat → Prop} (h : DfsI l i j ms ms' S) (hS : ∀ k, S' k → S k) : DfsI l i j ms ms' S' := ⟨h.mono, fun k hk => h.seen k (hS k hk), h.done⟩
/-- nothing was found from i: there is no round -/
theorem DfsR.none {n : Nat} {l : List Nd} {i : Nat} {ms' : List (Nat × Nat)} (h : DfsR n l i i [] ms' false) : ¬ Rch l i i := by
  obtain ⟨h1, h2⟩ := h.no rfl
  have hz : ∀ v, ¬ mkd [] v := fun v hv => by simp [mkd, getM] at hv
  have key : ∀ {a b : Nat}, Rch l a b → (a = i ∨ mkd ms' a) → mkd ms' b ∧ b ≠ i := fun {a b} hr => by
    induction hr with
    | one e => rintro (rfl | q); exact h1 _ e; exact h2 _ q (hz _) _ e
    | step e _ ih =>
      rintro (rfl | q)
      · exact ih (.inr (h1 _ e).1)
      · exact ih (.inr (h2 _ q (hz _) _ e).1)
  intro hr
  exact (key hr (.inl rfl)).2 rfl
/-- the ways of j that were gone: those of the first needs, and the first of one -/
def Gone (l : List Nd) (j a : Nat) (b : Nat) (k : Nat) : Prop := (∃ x ∈ l.take a, x.who.toNat = j ∧ ∃ z ∈ x.fr, z.toNat = k) ∨ ∃ x, l[a]? = some x ∧ x.who.toNat = j ∧ ∃ z ∈ x.fr.take b, z.toNat = k
end Go.Proofs.Ytplcflifofomjaa
