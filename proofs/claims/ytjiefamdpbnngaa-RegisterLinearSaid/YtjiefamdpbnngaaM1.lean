/- What stays of an op; where a value comes from. In plain words. No condition. -/
import Derived.Test.YtjiefamdpbnngaaA6
namespace Go.Proofs.Ytjiefamdpbnngaa
open Go.RowKit
set_option linter.unusedVariables false
set_option linter.unusedSimpArgs false
set_option maxRecDepth 100000

def Ext (a b : List Oq) : Prop := ∀ (k : Nat) (o : Oq), a[k]? = some o → ∃ o', b[k]? = some o' ∧ o'.who = o.who ∧ o'.wr = o.wr ∧ o'.frm = o.frm ∧ (o.wr = true → o'.val = o.val) ∧ (0 ≤ o.to → o' = o)
theorem Ext.refl (a : List Oq) : Ext a a := fun k o h => ⟨o, h, rfl, rfl, rfl, fun _ => rfl, fun _ => rfl⟩
theorem Ext.trans {a b c : List Oq} (h1 : Ext a b) (h2 : Ext b c) : Ext a c := fun k o h => by
  obtain ⟨o1, e1, e2, e3, e4, e5, e6⟩ := h1 k o h
  obtain ⟨o2, f1, f2, f3, f4, f5, f6⟩ := h2 k o1 e1
  exact ⟨o2, f1, f2.trans e2, f3.trans e3, f4.trans e4, fun hw => (f5 (e3.trans hw)).trans (e5 hw), fun ht => by have := e6 ht; subst this; exact f6 ht⟩
theorem Ext.snoc (a : List Oq) (x : Oq) : Ext a (a ++ [x]) := fun k o h => ⟨o, by rw [List.getElem?_append_left (List.getElem?_eq_some_iff.1 h).1]; exact h, rfl, rfl, rfl, fun _ => rfl, fun _ => rfl⟩
theorem Ext.set {a : List Oq} {k : Nat} {o x : Oq} (h : a[k]? = some o) (ht : o.to < 0) (h1 : x.who = o.who) (h2 : x.wr = o.wr) (h3 : x.frm = o.frm) (h4 : o.wr = true → x.val = o.val) : Ext a (a.set k x) := fun j y hy => by
  by_cases e : k = j
  · subst e
    cases h.symm.trans hy
    exact ⟨x, List.getElem?_set_self (List.getElem?_eq_some_iff.1 h).1, h1, h2, h3, h4, fun q => by omega⟩
  · exact ⟨y, by rw [List.getElem?_set_ne e]; exact hy, rfl, rfl, rfl, fun _ => rfl, fun _ => rfl⟩
/-- what a reach does -/
theorem reach_cases {n m c i : Nat} {s : RS} (inv : InvR n m s) : reachR s c i m = (6, s) ∨ ∃ k o, s.now.getD c none = some k ∧ s.ops[k]? = some o ∧ o.who = c ∧ o.to < 0 ∧ ¬ i ∈ o.seen := by
  cases h : s.now.getD c none with
  | none => left; unfold reachR; rw [h]
  | some k =>
    obtain ⟨o, ho, hw, ht⟩ := inv.now c k (getD_now h)
    by_cases hs : i ∈ o.seen
    · exact .inl (reachR_seen h ho hs)
    · exact .inr ⟨k, o, rfl, ho, hw, ht, hs⟩
theorem turn_keeps {cs : List Sd} {i m : Nat} {o x : Oq} (hx : x = if 2 * (o.many + 1) ≤ cs.length then seeR cs i o else turnO (seeR cs i o) m) : x.who = o.who ∧ x.wr = o.wr ∧ x.frm = o.frm ∧ (o.wr = true → x.val = o.val) := by
  subst hx
  split
  · exact ⟨rfl, rfl, rfl, fun _ => rfl⟩
  · unfold turnO
    split
    · exact ⟨rfl, rfl, rfl, fun h => if_pos h⟩
    · exact ⟨rfl, rfl, rfl, fun _ => rfl⟩
theorem ext_reach {n m c i : Nat} {s : RS} (inv : InvR n m s) : Ext s.ops (reachR s c i m).2.ops := by
  rcases reach_cases (c := c) (i := i) inv with h | ⟨k, o, hn, ho, hw, ht, hs⟩
  · rw [h]; exact Ext.refl _
  · rw [reachR_eq hn ho hs]
    obtain ⟨h1, h2, h3, h4⟩ := turn_keeps (cs := s.cs) (i := i) (m := m) (o := o) rfl
    exact Ext.set ho ht h1 h2 h3 h4
theorem ext_step {n m : Nat} {s : RS} (inv : InvR n m s) (c : Cl) : Ext s.ops (stepR s c m).2.ops := by
  unfold stepR
  split
  · exact Ext.refl _
  · split
    · exact Ext.refl _
    · split
      · unfold beginR
        split
        · exact Ext.refl _
        · exact Ext.snoc _ _
      · split
        · exact ext_reach inv
        · unfold lateR
          split
          · exact Ext.refl _
          · split
            · exact Ext.refl _
            · split <;> exact Ext.refl _
theorem ext_run {n : Nat} (h1 : 1 ≤ n) : ∀ (l : List Cl) {m : Nat} {s : RS}, InvR n m s → Ext s.ops (stR s m l).ops
  | [], m, s, _ => Ext.refl _
  | c :: l, m, s, inv => (ext_step inv c).trans (ext_run h1 l (inv.step h1 c))
theorem front {n : Nat} (h1 : 1 ≤ n) (l : List Cl) (k : Nat) : Ext (stR (rs0 n) 0 (l.take k)).ops (stR (rs0 n) 0 l).ops := by
  have h := ext_run h1 (l.drop k) ((InvR.zero n).run h1 (l.take k))
  have e : stR (rs0 n) 0 l = stR (stR (rs0 n) 0 (l.take k)) (0 + (l.take k).length) (l.drop k) := by rw [← stR_app, List.take_append_drop]
  rw [e]; exact h
theorem front_codes {n : Nat} (l : List Cl) (k : Nat) : codesR (rs0 n) 0 (l.take k) = (codesR (rs0 n) 0 l).take k := by
  have e : codesR (rs0 n) 0 l = codesR (rs0 n) 0 (l.take k) ++ codesR (stR (rs0 n) 0 (l.take k)) (0 + (l.take k).length) (l.drop k) := by rw [← codesR_app, List.take_append_drop]
  have hl := codesR_len (l.take k) (rs0 n) 0
  rw [List.length_take] at hl
  rcases Nat.le_total k l.length with h | h
  · rw [Nat.min_eq_left h] at hl
    rw [e, List.take_append_of_le_length (by omega)]
    exact (List.take_of_length_le (by omega)).symm
  · rw [List.take_of_length_le h, List.take_of_length_le (by rw [codesR_len]; exact h)]
/-! where a value comes from -/
def Wit (ops : List Oq) (m : Nat) (v : Int) : Prop := v = 0 ∨ ∃ (k : Nat) (b : Oq), ops[k]? = some b ∧ b.wr = true ∧ b.val = v ∧ b.frm < m
theorem Wit.mono {ops : List Oq} {m m' : Nat} {v : Int} (h : m ≤ m') : Wit ops m v → Wit ops m' v
  | .inl e => .inl e
  | .inr ⟨k, b, h1, h2, h3, h4⟩ => .inr ⟨k, b, h1, h2, h3, by omega⟩
theorem Wit.ext {a b : List Oq} {m : Nat} {v : Int} (h : Ext a b) : Wit a m v → Wit b m v
  | .inl e => .inl e
  | .inr ⟨k, x, h1, h2, h3, h4⟩ => by
    obtain ⟨y, e1, e2, e3, e4, e5, e6⟩ := h k x h1
    exact .inr ⟨k, y, e1, e3.trans h2, (e5 h2).trans h3, by omega⟩
structure FromI (m : Nat) (s : RS) : Prop where
  cs : ∀ (i : Nat) (c : Sd), s.cs[i]? = some c → Wit s.ops m c.val
  best : ∀ (k : Nat) (o : Oq), s.ops[k]? = some o → Wit s.ops m o.best.val
  done : ∀ (k : Nat) (o : Oq) (t : Nat), s.ops[k]? = some o → o.wr = false → o.to = (t : Int) → Wit s.ops t o.val
theorem FromI.zero (n : Nat) : FromI 0 (rs0 n) := by
  refine ⟨fun i c h => ?_, fun k o h => by simp [rs0] at h, fun k o t h => by simp [rs0] at h⟩
  simp only [rs0, List.getElem?_replicate] at h; split at h
  · cases h; exact .inl rfl
  · cases h
theorem FromI.wait {m : Nat} {s : RS} (h : FromI m s) : FromI (m + 1) s := ⟨fun i c hc => (h.cs i c hc).mono (by omega), fun k o ho => (h.best k o ho).mono (by omega), h.done⟩
theorem FromI.store {m : Nat} {s : RS} (h : FromI m s) (i : Nat) {x : Sd} (hx : Wit s.ops m x.val) : ∀ (j : Nat) (c : Sd), (storeR s.cs i x)[j]? = some c → Wit s.ops m c.val := fun j c hc => by
  rcases store_get hc with h1 | ⟨_, rfl⟩
  · exact h.cs j c h1
  · exact hx
theorem see_best {m : Nat} {s : RS} (h : FromI m s) {o : Oq} (hb : Wit s.ops m o.best.val) (i : Nat) : Wit s.ops m (seeR s.cs i o).best.val := by
  unfold seeR; dsimp only
  split
  · exact hb
  · split
    · rename_i c hc; split
      · exact h.cs i c hc
      · exact hb
    · exact hb
theorem FromI.reach {n m c i : Nat} {s : RS} (inv : InvR n m s) (h : FromI m s) : FromI (m + 1) (reachR s c i m).2 := by
  rcases reach_cases (c := c) (i := i) inv with e | ⟨k, o, hn, ho, hw, ht, hs⟩
  · rw [e]; exact h.wait
  · have hx := ext_reach (c := c) (i := i) inv
    rw [reachR_eq hn ho hs] at hx ⊢
    dsimp only at hx ⊢
    obtain ⟨x, hxd⟩ : ∃ x, x = if 2 * (o.many + 1) ≤ s.cs.length then seeR s.cs i o else turnO (seeR s.cs i o) m := ⟨_, rfl⟩
    rw [← hxd] at hx ⊢
    obtain ⟨k1, k2, k3, k4⟩ := turn_keeps hxd
    have hkl := (List.getElem?_eq_some_iff.1 ho).1
    have hfr := (inv.old k o ho).2.2.2.1
    have hsb := see_best h (h.best k o ho) i
    have hset : ∀ (k' : Nat) (y : Oq), (s.ops.set k x)[k']? = some y → (k' = k ∧ y = x) ∨ s.ops[k']? = some y := fun k' y hy => by
      by_cases e : k = k'
      · subst e; rw [List.getElem?_set_self hkl] at hy; cases hy; exact .inl ⟨rfl, rfl⟩
      · rw [List.getElem?_set_ne e] at hy; exact .inr hy
    have hxb : x.best.val = (seeR s.cs i o).best.val ∨ (o.wr = true ∧ x.best.val = o.val) := by
      rw [hxd]
      split
      · exact .inl rfl
      · unfold turnO
        split
        · exact .inl rfl
        · by_cases hwr : o.wr = true
          · exact .inr ⟨hwr, by rw [show (seeR s.cs i o).wr = o.wr from rfl, if_pos hwr]; rfl⟩
          · exact .inl (by rw [show (seeR s.cs i o).wr = o.wr from rfl, if_neg hwr])
    refine ⟨fun j q hq => ?_, fun k' y hy => ?_, fun k' y t hy hyw hyt => ?_⟩
    · refine Wit.ext hx (Wit.mono (Nat.le_succ m) ?_)
      dsimp only at hq
      split at hq
      · exact h.store i (h.best k o ho) j q hq
      · exact h.cs j q hq
    · rcases hset _ _ hy with ⟨rfl, rfl⟩ | hy'
      · rcases hxb with e | ⟨hwr, e⟩
        · rw [e]; exact Wit.ext hx (hsb.mono (Nat.le_succ m))
        · exact .inr ⟨k', y, List.getElem?_set_self hkl, k2.trans hwr, by rw [e, k4 hwr], by omega⟩
      · exact Wit.ext hx ((h.best k' y hy').mono (Nat.le_succ m))
    · rcases hset _ _ hy with ⟨rfl, rfl⟩ | hy'
      · by_cases hthr : 2 * (o.many + 1) ≤ s.cs.length
        · rw [if_pos hthr] at hxd
          have : y.to = o.to := by rw [hxd]; rfl
          omega
        · rw [if_neg hthr] at hxd
          unfold turnO at hxd
          split at hxd
          · rename_i hsec
            have e1 : y.to = (m : Int) := by rw [hxd]
            have e2 : t = m := by omega
            subst e2
            have e3 : y.val = (seeR s.cs i o).best.val := by
              rw [hxd]; dsimp only
              exact if_neg (by rw [show (seeR s.cs i o).wr = o.wr from rfl, ← k2, hyw]; decide)
            rw [e3]
            exact Wit.ext hx hsb
          · have : y.to = o.to := by rw [hxd]; rfl
            omega
      · exact Wit.ext hx (h.done k' y t hy' hyw hyt)
theorem FromI.step {n m : Nat} {s : RS} (inv : InvR n m s) (h : FromI m s) (c : Cl) : FromI (m + 1) (stepR s c m).2 := by
  have hx := ext_step inv c
  unfold stepR at hx ⊢
  split
  · exact h.wait
  · split
    · exact h.wait
    · rename_i g1 g2
      rw [if_neg g1, if_neg g2] at hx
      split
      · rename_i g3
        rw [if_pos g3] at hx
        unfold beginR at hx ⊢
        split
        · exact h.wait
        · rename_i g4
          rw [g4] at hx
          dsimp only at hx ⊢
          refine ⟨fun i q hq => Wit.ext hx ((h.cs i q hq).mono (by omega)), fun k o ho => ?_, fun k o t ho hw ht => ?_⟩
          · rcases Nat.lt_or_ge k s.ops.length with hk | hk
            · rw [List.getElem?_append_left hk] at ho
              exact Wit.ext hx ((h.best k o ho).mono (by omega))
            · rw [List.getElem?_append_right hk] at ho
              obtain ⟨_, e⟩ := List.getElem?_eq_some_iff.1 ho
              simp at e; subst e
              exact .inl rfl
          · rcases Nat.lt_or_ge k s.ops.length with hk | hk
            · rw [List.getElem?_append_left hk] at ho
              exact Wit.ext hx (h.done k o t ho hw ht)
            · rw [List.getElem?_append_right hk] at ho
              obtain ⟨_, e⟩ := List.getElem?_eq_some_iff.1 ho
              simp at e; subst e
              have : (newO c.who.toNat c.wr c.val m).to = -1 := rfl
              omega
      · split
        · exact FromI.reach inv h
        · unfold lateR
          split
          · exact h.wait
          · split
            · exact h.wait
            · rename_i o ho
              split
              · exact FromI.wait ⟨h.store _ (h.best _ o ho), h.best, h.done⟩
              · exact h.wait
theorem FromI.run {n : Nat} (h1 : 1 ≤ n) : ∀ (l : List Cl) {m : Nat} {s : RS}, InvR n m s → FromI m s → FromI (m + l.length) (stR s m l)
  | [], m, s, _, h => h
  | c :: l, m, s, inv, h => by
    have := FromI.run h1 l (inv.step h1 c) (h.step inv c)
    rw [show m + (c :: l).length = m + 1 + l.length by simp; omega]; exact this
end Go.Proofs.Ytjiefamdpbnngaa
