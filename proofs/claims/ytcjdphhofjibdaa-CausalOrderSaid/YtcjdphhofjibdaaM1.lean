/- What holds at each step. Plain words. No condition. -/
import Derived.Test.YtcjdphhofjibdaaA6
namespace Go.Proofs.Ytcjdphhofjibdaa
open Go.RowKit
set_option linter.unusedVariables false
set_option linter.unusedSimpArgs false
set_option maxRecDepth 100000

/-- how many of one's own there are ahead -/
def ix (all : List Ms) (j m : Nat) : Nat := (all.take m).countP (fun a => decide (a.frm = j))
theorem ix_succ {all : List Ms} {m : Nat} {a : Ms} (j : Nat) (h : all[m]? = some a) : ix all j (m + 1) = ix all j m + if a.frm = j then 1 else 0 := by
  unfold ix; rw [take_of h, List.countP_append]
  by_cases e : a.frm = j <;> simp [e]
theorem ix_mono (all : List Ms) (j : Nat) {m m' : Nat} (h : m ≤ m') : ix all j m ≤ ix all j m' := by
  unfold ix
  have : all.take m = (all.take m').take m := by rw [List.take_take, Nat.min_eq_left h]
  rw [this]; exact (List.take_sublist ..).countP_le
theorem ix_lt {all : List Ms} {j m m' : Nat} {a : Ms} (h : all[m]? = some a) (hj : a.frm = j) (hl : m < m') : ix all j m < ix all j m' := by
  have h1 := ix_succ j h
  have h2 := ix_mono all j (show m + 1 ≤ m' from hl)
  rw [if_pos hj] at h1; omega
theorem ix_inj {all : List Ms} {m m' : Nat} {a b : Ms} (h : all[m]? = some a) (h' : all[m']? = some b) (hj : b.frm = a.frm) (e : ix all a.frm m = ix all a.frm m') : m = m' := by
  rcases Nat.lt_trichotomy m m' with c | c | c
  · have := ix_lt h rfl c; omega
  · exact c
  · have := ix_lt h' hj c; omega
theorem ix_app {all l : List Ms} {j m : Nat} (h : m ≤ all.length) : ix (all ++ l) j m = ix all j m := by
  unfold ix; rw [List.take_append_of_le_length h]
theorem ix_has {all : List Ms} {j : Nat} : ∀ {m k : Nat}, m ≤ all.length → k < ix all j m → ∃ c b, c < m ∧ all[c]? = some b ∧ b.frm = j ∧ ix all j c = k
  | 0, k, _, h => by simp [ix] at h
  | m + 1, k, hm, h => by
    obtain ⟨a, ha⟩ := get_of_lt (xs := all) (k := m) (by omega)
    rw [ix_succ j ha] at h
    by_cases c : k < ix all j m
    · obtain ⟨c, b, h1, h2⟩ := ix_has (m := m) (by omega) c
      exact ⟨c, b, by omega, h2⟩
    · split at h
      · exact ⟨m, a, by omega, ha, by assumption, by omega⟩
      · omega
theorem getD_set {l : List Nat} {f x j : Nat} (hf : f < l.length) : (l.set f x).getD j 0 = if f = j then x else l.getD j 0 := by
  rw [List.getD_eq_getElem?_getD, List.getD_eq_getElem?_getD, List.getElem?_set]
  by_cases e : f = j
  · subst e; simp [hf]
  · simp [e]
theorem snoc_at {α : Type} {l : List α} {a b : α} {m : Nat} : (l ++ [a])[m]? = some b ↔ (m < l.length ∧ l[m]? = some b) ∨ (m = l.length ∧ b = a) := by
  rcases Nat.lt_trichotomy m l.length with c | c | c
  · rw [List.getElem?_append_left c]; constructor
    · exact fun h => .inl ⟨c, h⟩
    · rintro (⟨_, h⟩ | ⟨h, _⟩); exact h; omega
  · subst c
    rw [List.getElem?_append_right (Nat.le_refl _), Nat.sub_self]; constructor
    · intro h; simp at h; exact .inr ⟨rfl, h.symm⟩
    · rintro (⟨h, _⟩ | ⟨_, rfl⟩); omega; rfl
  · rw [List.getElem?_eq_none (by simp; omega)]; constructor
    · intro h; cases h
    · rintro (⟨h, _⟩ | ⟨h, _⟩) <;> omega
theorem erase_perm {α : Type} : ∀ {l : List α} {k : Nat} {x : α}, l[k]? = some x → (x :: l.eraseIdx k).Perm l
  | [], k, x, h => by simp at h
  | y :: l, 0, x, h => by simp at h; subst h; exact List.Perm.refl _
  | y :: l, k + 1, x, h => by
    rw [List.eraseIdx_cons_succ]
    exact (List.Perm.swap ..).trans ((erase_perm (l := l) (by simpa using h)).cons y)
theorem rdy_iff {all : List Ms} {cnt : List Nat} {m : Nat} {a : Ms} (h : all[m]? = some a) : rdy all cnt m = true ↔ ∀ j, j < a.need.length → a.need.getD j 0 ≤ cnt.getD j 0 := rdy_eq h
structure RowI (n : Nat) (all : List Ms) (i : Nat) (p : Pt) : Prop where
  cl : p.cnt.length = n
  lin : ∀ m ∈ p.lst, m < all.length
  win : ∀ m ∈ p.wts, ∃ a, all[m]? = some a ∧ a.frm ≠ i
  nd : (p.lst ++ p.wts).Nodup
  come : ∀ m a, all[m]? = some a → a.frm ≠ i → (0 < cmN p m ↔ m ∈ p.lst ∨ m ∈ p.wts)
  cz : ∀ m, all.length ≤ m → cmN p m = 0
  own : ∀ m a, all[m]? = some a → a.frm = i → m ∈ p.lst
  pre : ∀ m a, all[m]? = some a → (m ∈ p.lst ↔ ix all a.frm m < p.cnt.getD a.frm 0)
  cle : ∀ j, p.cnt.getD j 0 ≤ ix all j all.length
  ord : ∀ k m a c b, p.lst[k]? = some m → all[m]? = some a → all[c]? = some b → ix all b.frm c < a.need.getD b.frm 0 → c ∈ p.lst.take k
def MsI (n : Nat) (all : List Ms) : Prop := ∀ m a, all[m]? = some a → a.frm < n ∧ a.need.length = n ∧ a.need.getD a.frm 0 = ix all a.frm m ∧ ∀ j, a.need.getD j 0 ≤ ix all j m
def SetI (all : List Ms) (p : Pt) : Prop := ∀ m ∈ p.wts, rdy all p.cnt m = false
theorem RowI.ownc {n i : Nat} {all : List Ms} {p : Pt} (h : RowI n all i p) : p.cnt.getD i 0 = ix all i all.length := by
  rcases Nat.lt_or_ge (p.cnt.getD i 0) (ix all i all.length) with c | c
  · obtain ⟨c, b, h1, h2, h3, h4⟩ := ix_has (Nat.le_refl _) c
    have := (h.pre c b h2).1 (h.own c b h2 h3)
    rw [h3, h4] at this; omega
  · have := h.cle i; omega
theorem nodup_not {α : Type} {l l' : List α} {x : α} (h : (l ++ l').Nodup) (hx : x ∈ l') : x ∉ l := fun hl => (List.nodup_append.1 h).2.2 x hl x hx rfl
theorem RowI.hear {n i m f : Nat} {all : List Ms} {p : Pt} {a : Ms} (h : RowI n all i p) (hM : MsI n all) (hw : p.wts[f]? = some m) (ha : all[m]? = some a) (hr : rdy all p.cnt m = true) :
    RowI n all i (Go.Proofs.Ytcjdphhofjibdaa.hear all ⟨p.lst, p.cnt, p.cm, p.wts.eraseIdx f⟩ m) := by
  rw [hear_of (p := ⟨p.lst, p.cnt, p.cm, p.wts.eraseIdx f⟩) ha]
  obtain ⟨hf, hnl, hno, hnx⟩ := hM m a ha
  have hne : a.frm ≠ i := by
    obtain ⟨a', h1, h2⟩ := h.win m (List.mem_of_getElem? hw)
    rw [ha] at h1; cases h1; exact h2
  have hnot : m ∉ p.lst := nodup_not h.nd (List.mem_of_getElem? hw)
  have hrd := (rdy_iff ha).1 hr
  have hml := (List.getElem?_eq_some_iff.1 ha).1
  have hc : p.cnt.getD a.frm 0 = ix all a.frm m := by
    have h1 := hrd a.frm (by omega)
    have h2 : ¬ ix all a.frm m < p.cnt.getD a.frm 0 := fun q => hnot ((h.pre m a ha).2 q)
    omega
  have hcl := h.cl
  have hg : ∀ j, (p.cnt.set a.frm (p.cnt.getD a.frm 0 + 1)).getD j 0 = if a.frm = j then p.cnt.getD a.frm 0 + 1 else p.cnt.getD j 0 := fun j => getD_set (by omega)
  have hpm := erase_perm hw
  have hmem : ∀ x, (x ∈ p.lst ++ [m] ∨ x ∈ p.wts.eraseIdx f) ↔ x ∈ p.lst ∨ x ∈ p.wts := fun x => by
    rw [← hpm.mem_iff]; simp only [List.mem_append, List.mem_cons, List.not_mem_nil, or_false]
    constructor
    · rintro ((q | q) | q)
      · exact .inl q
      · exact .inr (.inl q)
      · exact .inr (.inr q)
    · rintro (q | q | q)
      · exact .inl (.inl q)
      · exact .inl (.inr q)
      · exact .inr q
  refine ⟨by dsimp only; rw [List.length_set]; exact hcl, fun x hx => ?_, fun x hx => h.win x (List.mem_of_mem_eraseIdx hx), ?_, fun x b hb hbi => ?_, h.cz, fun x b hb hbi => List.mem_append_left _ (h.own x b hb hbi), fun x b hb => ?_, fun j => ?_, fun k x b c d hk hb hd hlt => ?_⟩
  · rcases List.mem_append.1 hx with q | q
    · exact h.lin x q
    · rw [List.mem_singleton] at q; omega
  · dsimp only
    rw [List.append_assoc]
    exact ((hpm.append_left p.lst).nodup_iff).2 h.nd
  · dsimp only; rw [hmem]; exact h.come x b hb hbi
  · dsimp only; rw [hg, List.mem_append, List.mem_singleton, h.pre x b hb]
    by_cases e : a.frm = b.frm
    · rw [if_pos e, ← e, hc]
      constructor
      · rintro (q | rfl)
        · omega
        · omega
      · intro q
        by_cases z : ix all a.frm x = ix all a.frm m
        · exact .inr (ix_inj ha hb e.symm z.symm).symm
        · exact .inl (by omega)
    · rw [if_neg e]
      constructor
      · rintro (q | rfl)
        · exact q
        · rw [ha] at hb; cases hb; exact absurd rfl e
      · exact .inl
  · dsimp only; rw [hg]
    split
    · rename_i e; subst e
      have h1 := ix_succ a.frm ha
      have h2 := ix_mono all a.frm (show m + 1 ≤ all.length from hml)
      rw [if_pos rfl] at h1; omega
    · exact h.cle j
  · dsimp only at hk ⊢
    rcases snoc_at.1 hk with ⟨q1, q2⟩ | ⟨q1, q2⟩
    · rw [List.take_append_of_le_length (by omega)]; exact h.ord k x b c d q2 hb hd hlt
    · subst q2; subst q1
      rw [ha] at hb; cases hb
      rw [List.take_left' rfl]
      obtain ⟨z1, z2, _, _⟩ := hM c d hd
      have := hrd d.frm (by omega)
      exact (h.pre c d hd).2 (by omega)
theorem RowI.stl {n i : Nat} {all : List Ms} (hM : MsI n all) : ∀ (k : Nat) {p : Pt}, RowI n all i p → p.wts.length ≤ k → RowI n all i (stl all k p) ∧ SetI all (stl all k p)
  | 0, p, h, hk => ⟨h, fun m hm => by
    have : p.wts = [] := List.length_eq_zero_iff.1 (by omega)
    have hm : m ∈ p.wts := hm
    rw [this] at hm; cases hm⟩
  | k + 1, p, h, hk => by
    rw [Go.Proofs.Ytcjdphhofjibdaa.stl]
    split
    · rename_i hn
      exact ⟨h, fun m hm => fst_none hn m hm⟩
    · rename_i m hm
      obtain ⟨a, ha, _⟩ := h.win m (List.mem_of_getElem? hm)
      have h2 := h.hear hM hm ha (fst_here hm)
      refine RowI.stl hM k h2 ?_
      rw [hear_of ha]
      have := (List.getElem?_eq_some_iff.1 hm).1
      dsimp only; rw [List.length_eraseIdx, if_pos this]; omega
theorem cmN_put {p : Pt} {m m' : Nat} {l c w : List Nat} {x : Nat} : cmN ⟨l, c, putM p.cm m x, w⟩ m' = if m = m' then x else cmN p m' := by
  unfold cmN; dsimp only; rw [getM_put]; split <;> rfl
theorem RowI.bump {n i m : Nat} {all : List Ms} {p : Pt} (h : RowI n all i p) (hm : m < all.length) (hc : 0 < cmN p m) : RowI n all i ⟨p.lst, p.cnt, putM p.cm m (cmN p m + 1), p.wts⟩ := by
  refine ⟨h.cl, h.lin, h.win, h.nd, fun x b hb hbi => ?_, fun x hx => ?_, h.own, h.pre, h.cle, h.ord⟩
  · rw [cmN_put, ← h.come x b hb hbi]
    split
    · rename_i e; subst e; omega
    · rfl
  · rw [cmN_put, if_neg (by omega)]; exact h.cz x hx
theorem ins_perm (l : List Nat) (m : Nat) : (ins l m).Perm (m :: l) := by
  unfold ins
  refine List.perm_middle.trans ?_
  rw [List.take_append_drop]
theorem RowI.ins {n i m : Nat} {all : List Ms} {p : Pt} {a : Ms} (h : RowI n all i p) (ha : all[m]? = some a) (hi : a.frm ≠ i) (hc : cmN p m = 0) : RowI n all i ⟨p.lst, p.cnt, putM p.cm m (cmN p m + 1), ins p.wts m⟩ := by
  have hml := (List.getElem?_eq_some_iff.1 ha).1
  have hno : ¬ (m ∈ p.lst ∨ m ∈ p.wts) := fun q => by have := (h.come m a ha hi).2 q; omega
  refine ⟨h.cl, h.lin, fun x hx => ?_, ?_, fun x b hb hbi => ?_, fun x hx => ?_, h.own, h.pre, h.cle, h.ord⟩
  · rcases mem_ins.1 hx with rfl | q
    · exact ⟨a, ha, hi⟩
    · exact h.win x q
  · have hp : (p.lst ++ Go.Proofs.Ytcjdphhofjibdaa.ins p.wts m).Perm (m :: (p.lst ++ p.wts)) := ((ins_perm p.wts m).append_left p.lst).trans List.perm_middle
    refine hp.nodup_iff.2 (List.nodup_cons.2 ⟨fun q => hno (List.mem_append.1 q), h.nd⟩)
  · rw [cmN_put]; dsimp only; rw [mem_ins]
    split
    · rename_i e; subst e; simp
    · rename_i e
      rw [h.come x b hb hbi]
      constructor
      · rintro (q | q)
        · exact .inl q
        · exact .inr (.inr q)
      · rintro (q | q | q)
        · exact .inl q
        · exact absurd q.symm e
        · exact .inr q
  · rw [cmN_put, if_neg (by omega)]; exact h.cz x hx
theorem MsI.snoc {n i : Nat} {all : List Ms} {cnt : List Nat} (h : MsI n all) (hi : i < n) (hc : cnt.length = n) (ho : cnt.getD i 0 = ix all i all.length) (hl : ∀ j, cnt.getD j 0 ≤ ix all j all.length) : MsI n (all ++ [⟨i, cnt⟩]) := fun m a ha => by
  rcases snoc_at.1 ha with ⟨q1, q2⟩ | ⟨q1, q2⟩
  · obtain ⟨h1, h2, h3, h4⟩ := h m a q2
    exact ⟨h1, h2, by rw [ix_app (by omega)]; exact h3, fun j => by rw [ix_app (by omega)]; exact h4 j⟩
  · subst q1; subst q2
    exact ⟨hi, hc, by rw [ix_app (Nat.le_refl _)]; exact ho, fun j => by rw [ix_app (Nat.le_refl _)]; exact hl j⟩
theorem ix_len_app {all : List Ms} {a : Ms} (j : Nat) : ix (all ++ [a]) j (all ++ [a]).length = ix all j all.length + if a.frm = j then 1 else 0 := by
  rw [List.length_append, List.length_singleton, ix_succ (m := all.length) (a := a) j (by simp), ix_app (Nat.le_refl _)]
theorem RowI.grow {n i : Nat} {all : List Ms} {p : Pt} {a : Ms} (h : RowI n all i p) (hM : MsI n all) (hi : a.frm ≠ i) : RowI n (all ++ [a]) i p := by
  have hnew : ∀ m ∈ p.lst, m ≠ all.length := fun m hm e => by have := h.lin m hm; omega
  refine ⟨h.cl, fun m hm => by have := h.lin m hm; simp; omega, fun m hm => ?_, h.nd, fun m b hb hbi => ?_, fun m hm => h.cz m (by simp at hm; omega), fun m b hb hbi => ?_, fun m b hb => ?_, fun j => ?_, fun k m b c d hk hb hd hlt => ?_⟩
  · obtain ⟨b, hb, h2⟩ := h.win m hm
    exact ⟨b, snoc_at.2 (.inl ⟨(List.getElem?_eq_some_iff.1 hb).1, hb⟩), h2⟩
  · rcases snoc_at.1 hb with ⟨q1, q2⟩ | ⟨q1, q2⟩
    · exact h.come m b q2 hbi
    · subst q1
      rw [h.cz _ (Nat.le_refl _)]
      constructor
      · intro q; omega
      · rintro (q | q)
        · exact absurd rfl (hnew _ q)
        · obtain ⟨b', hb', _⟩ := h.win _ q
          have := (List.getElem?_eq_some_iff.1 hb').1; omega
  · rcases snoc_at.1 hb with ⟨q1, q2⟩ | ⟨q1, q2⟩
    · exact h.own m b q2 hbi
    · subst q2; exact absurd hbi hi
  · rcases snoc_at.1 hb with ⟨q1, q2⟩ | ⟨q1, q2⟩
    · rw [ix_app (by omega)]; exact h.pre m b q2
    · subst q1; subst q2
      rw [ix_app (Nat.le_refl _)]
      have := h.cle b.frm
      exact ⟨fun q => absurd rfl (hnew _ q), fun q => by omega⟩
  · rw [ix_len_app]; have := h.cle j; omega
  · have hm := h.lin m (List.mem_of_getElem? hk)
    rcases snoc_at.1 hb with ⟨q1, q2⟩ | ⟨q1, q2⟩
    · rcases snoc_at.1 hd with ⟨z1, z2⟩ | ⟨z1, z2⟩
      · rw [ix_app (by omega)] at hlt; exact h.ord k m b c d hk q2 z2 hlt
      · subst z1
        rw [ix_app (Nat.le_refl _)] at hlt
        have h1 := (hM m b q2).2.2.2 d.frm
        have h2 := ix_mono all d.frm (show m ≤ all.length by omega)
        omega
    · omega
theorem rdy_app {all l : List Ms} {cnt : List Nat} {m : Nat} (h : m < all.length) : rdy (all ++ l) cnt m = rdy all cnt m := by
  unfold rdy; rw [List.getElem?_append_left h]
theorem SetI.grow {n i : Nat} {all l : List Ms} {p : Pt} (h : SetI all p) (hR : RowI n all i p) : SetI (all ++ l) p := fun m hm => by
  obtain ⟨a, ha, _⟩ := hR.win m hm
  rw [rdy_app (List.getElem?_eq_some_iff.1 ha).1]; exact h m hm
theorem RowI.send {n i : Nat} {all : List Ms} {p : Pt} (h : RowI n all i p) (hM : MsI n all) (hi : i < n) :
    RowI n (all ++ [⟨i, p.cnt⟩]) i ⟨p.lst ++ [all.length], p.cnt.set i (p.cnt.getD i 0 + 1), p.cm, p.wts⟩ := by
  have hcl := h.cl
  have hoc := h.ownc
  have hnew : ∀ m ∈ p.lst, m ≠ all.length := fun m hm e => by have := h.lin m hm; omega
  have hg : ∀ j, (p.cnt.set i (p.cnt.getD i 0 + 1)).getD j 0 = if i = j then p.cnt.getD i 0 + 1 else p.cnt.getD j 0 := fun j => getD_set (by omega)
  refine ⟨by dsimp only; rw [List.length_set]; exact hcl, fun m hm => ?_, fun m hm => ?_, ?_, fun m b hb hbi => ?_, fun m hm => h.cz m (by simp at hm; omega), fun m b hb hbi => ?_, fun m b hb => ?_, fun j => ?_, fun k m b c d hk hb hd hlt => ?_⟩
  · rw [List.length_append, List.length_singleton]
    rcases List.mem_append.1 hm with q | q
    · have := h.lin m q; omega
    · rw [List.mem_singleton] at q; omega
  · obtain ⟨b, hb, h2⟩ := h.win m hm
    exact ⟨b, snoc_at.2 (.inl ⟨(List.getElem?_eq_some_iff.1 hb).1, hb⟩), h2⟩
  · dsimp only
    have hp : (p.lst ++ [all.length] ++ p.wts).Perm (all.length :: (p.lst ++ p.wts)) := by rw [List.append_assoc]; exact List.perm_middle
    refine hp.nodup_iff.2 (List.nodup_cons.2 ⟨fun q => ?_, h.nd⟩)
    rcases List.mem_append.1 q with q | q
    · exact hnew _ q rfl
    · obtain ⟨b', hb', _⟩ := h.win _ q
      have := (List.getElem?_eq_some_iff.1 hb').1; omega
  · dsimp only
    rcases snoc_at.1 hb with ⟨q1, q2⟩ | ⟨q1, q2⟩
    · refine (h.come m b q2 hbi).trans ?_
      rw [List.mem_append, List.mem_singleton]
      constructor
      · rintro (q | q)
        · exact .inl (.inl q)
        · exact .inr q
      · rintro ((q | q) | q)
        · exact .inl q
        · omega
        · exact .inr q
    · subst q2; exact absurd rfl hbi
  · rcases snoc_at.1 hb with ⟨q1, q2⟩ | ⟨q1, q2⟩
    · exact List.mem_append_left _ (h.own m b q2 hbi)
    · subst q1; exact List.mem_append_right _ (List.mem_singleton.2 rfl)
  · dsimp only; rw [hg]
    rcases snoc_at.1 hb with ⟨q1, q2⟩ | ⟨q1, q2⟩
    · rw [ix_app (by omega), List.mem_append, List.mem_singleton]
      have h1 := h.pre m b q2
      split
      · rename_i e
        have h2 := h.own m b q2 e.symm
        have h3 := h1.1 h2
        rw [← e] at h3 ⊢
        exact ⟨fun _ => by omega, fun _ => .inl h2⟩
      · exact ⟨fun q => h1.1 (q.resolve_right (by omega)), fun q => .inl (h1.2 q)⟩
    · subst q1; subst q2
      rw [ix_app (Nat.le_refl _), if_pos rfl]
      dsimp only
      exact ⟨fun _ => by omega, fun _ => List.mem_append_right _ (List.mem_singleton.2 rfl)⟩
  · dsimp only; rw [hg, ix_len_app]
    have := h.cle j
    dsimp only
    split
    · rename_i e; subst e; omega
    · omega
  · dsimp only at hk ⊢
    rcases snoc_at.1 hk with ⟨q1, q2⟩ | ⟨q1, q2⟩
    · have hm := h.lin m (List.mem_of_getElem? q2)
      rw [List.take_append_of_le_length (by omega)]
      rcases snoc_at.1 hb with ⟨y1, y2⟩ | ⟨y1, y2⟩
      · rcases snoc_at.1 hd with ⟨z1, z2⟩ | ⟨z1, z2⟩
        · rw [ix_app (by omega)] at hlt; exact h.ord k m b c d q2 y2 z2 hlt
        · subst z1
          rw [ix_app (Nat.le_refl _)] at hlt
          have h1 := (hM m b y2).2.2.2 d.frm
          have h2 := ix_mono all d.frm (show m ≤ all.length by omega)
          omega
      · omega
    · subst q2; subst q1
      rw [List.take_left' rfl]
      rcases snoc_at.1 hb with ⟨y1, y2⟩ | ⟨y1, y2⟩
      · omega
      · subst y2
        dsimp only at hlt
        rcases snoc_at.1 hd with ⟨z1, z2⟩ | ⟨z1, z2⟩
        · rw [ix_app (by omega)] at hlt; exact (h.pre c d z2).2 hlt
        · subst z1; subst z2
          rw [ix_app (Nat.le_refl _)] at hlt
          dsimp only at hlt; omega
theorem SetI.send {n i : Nat} {all : List Ms} {p : Pt} (h : SetI all p) (hR : RowI n all i p) (hM : MsI n all) (hi : i < n) : SetI (all ++ [⟨i, p.cnt⟩]) ⟨p.lst ++ [all.length], p.cnt.set i (p.cnt.getD i 0 + 1), p.cm, p.wts⟩ := fun m hm => by
  obtain ⟨a, ha, _⟩ := hR.win m hm
  have hml := (List.getElem?_eq_some_iff.1 ha).1
  have h0 := h m hm
  rw [rdy_app hml]
  cases e : rdy all (p.cnt.set i (p.cnt.getD i 0 + 1)) m with
  | false => rfl
  | true =>
    exfalso
    have : rdy all p.cnt m = true := (rdy_iff ha).2 fun j hj => by
      have h1 := (rdy_iff ha).1 e j hj
      rw [getD_set (by have := hR.cl; omega)] at h1
      by_cases c : i = j
      · subst c
        have h2 := (hM m a ha).2.2.2 i
        have h3 := ix_mono all i (show m ≤ all.length by omega)
        have h4 := hR.ownc
        omega
      · rwa [if_neg c] at h1
    rw [this] at h0; cases h0
structure InvC (n : Nat) (s : CS) : Prop where
  len : s.ps.length = n
  ms : MsI n s.all
  row : ∀ i p, s.ps[i]? = some p → RowI n s.all i p ∧ SetI s.all p
theorem set_at {α : Type} {l : List α} {i j : Nat} {x y : α} (h : (l.set i x)[j]? = some y) : (i = j ∧ y = x) ∨ (i ≠ j ∧ l[j]? = some y) := by
  rw [List.getElem?_set] at h
  by_cases e : i = j
  · rw [if_pos e] at h
    split at h
    · cases h; exact .inl ⟨e, rfl⟩
    · cases h
  · rw [if_neg e] at h; exact .inr ⟨e, h⟩
theorem InvC.put {n i : Nat} {s : CS} {q : Pt} (h : InvC n s) (hq : RowI n s.all i q ∧ SetI s.all q) : InvC n ⟨s.all, s.ps.set i q⟩ :=
  ⟨by dsimp only; rw [List.length_set]; exact h.len, h.ms, fun j p hp => by
    rcases set_at hp with ⟨rfl, rfl⟩ | ⟨_, h2⟩
    · exact hq
    · exact h.row j p h2⟩
theorem InvC.step {n : Nat} {s : CS} (x : Mv) (h : InvC n s) : InvC n (stepC s x).2 := by
  unfold stepC
  split
  · exact h
  split
  · exact h
  rename_i hw
  obtain ⟨hw0, hw1⟩ := isN_false hw
  rw [h.len] at hw1
  split
  · exact h
  rename_i p hp
  obtain ⟨hR, hS⟩ := h.row _ p hp
  split
  · rw [hear_of (all := s.all ++ [(⟨x.who.toNat, p.cnt⟩ : Ms)]) (p := p) (m := s.all.length) (a := (⟨x.who.toNat, p.cnt⟩ : Ms)) (by simp)]
    refine ⟨by dsimp only; rw [List.length_set]; exact h.len, h.ms.snoc hw1 hR.cl hR.ownc hR.cle, fun j q hq => ?_⟩
    rcases set_at hq with ⟨h1, h2⟩ | ⟨h1, h2⟩
    · subst h1; subst h2
      exact ⟨hR.send h.ms hw1, hS.send hR h.ms hw1⟩
    · obtain ⟨h3, h4⟩ := h.row j q h2
      exact ⟨h3.grow h.ms h1, h4.grow h3⟩
  split
  · exact h
  rename_i hm
  obtain ⟨hm0, hm1⟩ := isN_false hm
  split
  · exact h
  rename_i a ha
  split
  · exact h
  rename_i hfr
  split
  · rename_i hc
    exact h.put ⟨hR.bump hm1 hc, hS⟩
  · rename_i hc
    have h2 := hR.ins ha hfr (by omega)
    exact h.put (h2.stl h.ms _ (Nat.le_refl _))
theorem InvC.zero (n : Nat) : InvC n (cs0 n) := by
  refine ⟨by simp [cs0], fun m a ha => by simp [cs0] at ha, fun i p hp => ?_⟩
  have : p = ⟨[], List.replicate n 0, [], []⟩ := List.eq_of_mem_replicate (List.mem_of_getElem? hp)
  subst this
  have hz : ∀ j, (List.replicate n 0).getD j 0 = 0 := fun j => by rw [List.getD_eq_getElem?_getD, List.getElem?_replicate]; split <;> rfl
  exact ⟨⟨by simp, fun m hm => (by cases hm), fun m hm => (by cases hm), List.nodup_nil, fun m a ha => by simp [cs0] at ha, fun m _ => rfl, fun m a ha => by simp [cs0] at ha, fun m a ha => by simp [cs0] at ha, fun j => by dsimp only; rw [hz]; exact Nat.zero_le _, fun k m a c b hk => by simp at hk⟩, fun m hm => by cases hm⟩
theorem InvC.run {n : Nat} : ∀ (cs : List Mv) {s : CS}, InvC n s → InvC n (stC s cs)
  | [], _, h => h
  | c :: l, _, h => InvC.run l (h.step c)
/-! what stays -/
theorem stl_pre (all : List Ms) : ∀ (k : Nat) (p : Pt), p.lst <+: (stl all k p).lst
  | 0, p => List.prefix_refl _
  | k + 1, p => by
    rw [stl]
    split
    · exact List.prefix_refl _
    · refine List.IsPrefix.trans ?_ (stl_pre all k _)
      unfold hear; split
      · exact List.prefix_refl _
      · exact List.prefix_append ..
def LeC (s t : CS) : Prop := s.all <+: t.all ∧ ∀ i, lstC s i <+: lstC t i
theorem LeC.refl (s : CS) : LeC s s := ⟨List.prefix_refl _, fun i => List.prefix_refl _⟩
theorem LeC.trans {s t u : CS} (h : LeC s t) (h' : LeC t u) : LeC s u := ⟨h.1.trans h'.1, fun i => (h.2 i).trans (h'.2 i)⟩
theorem lstC_set {s : CS} {all : List Ms} {i : Nat} {p q : Pt} (hp : s.ps[i]? = some p) (hq : p.lst <+: q.lst) (j : Nat) : lstC s j <+: lstC ⟨all, s.ps.set i q⟩ j := by
  unfold lstC
  dsimp only
  rw [List.getElem?_set]
  by_cases e : i = j
  · subst e; rw [if_pos rfl, if_pos (List.getElem?_eq_some_iff.1 hp).1, hp]; exact hq
  · rw [if_neg e]; exact List.prefix_refl _
theorem LeC.step (s : CS) (x : Mv) : LeC s (stepC s x).2 := by
  unfold stepC
  split
  · exact LeC.refl _
  split
  · exact LeC.refl _
  split
  · exact LeC.refl _
  rename_i p hp
  split
  · refine ⟨List.prefix_append .., lstC_set hp ?_⟩
    rw [hear_of (all := s.all ++ [(⟨x.who.toNat, p.cnt⟩ : Ms)]) (p := p) (m := s.all.length) (a := (⟨x.who.toNat, p.cnt⟩ : Ms)) (by simp)]
    exact List.prefix_append ..
  split
  · exact LeC.refl _
  split
  · exact LeC.refl _
  split
  · exact LeC.refl _
  split
  · exact ⟨List.prefix_refl _, lstC_set hp (List.prefix_refl _)⟩
  · exact ⟨List.prefix_refl _, lstC_set hp (stl_pre s.all _ ⟨p.lst, p.cnt, putM p.cm x.msg.toNat (cmN p x.msg.toNat + 1), ins p.wts x.msg.toNat⟩)⟩
theorem LeC.run : ∀ (cs : List Mv) (s : CS), LeC s (stC s cs)
  | [], s => LeC.refl s
  | c :: l, s => (LeC.step s c).trans (LeC.run l _)
end Go.Proofs.Ytcjdphhofjibdaa
