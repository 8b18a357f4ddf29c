/- One transaction after the other: each read reads from the same write. Plain words. No condition. -/
import Derived.Test.YtcepfpbhfobbeaaB3
namespace Go.Proofs.Ytcepfpbhfobbeaa
open Go.RowKit
set_option linter.unusedVariables false
set_option linter.unusedSimpArgs false
set_option maxRecDepth 100000

/-! from which write each read reads -/
def isW (l : List An) (it j : Nat) : Bool := match l[j]? with
  | some a => decide (a.kind = 2 ∧ a.item = it)
  | none => false
def lw (l : List An) (it : Nat) : Nat → Option Nat
  | 0 => none
  | i + 1 => if isW l it i then some i else lw l it i
def oI : Option Nat → Int
  | some j => (j : Int)
  | none => -1
def rdI (l : List An) (i : Nat) : Int := match l[i]? with
  | some a => if a.kind = 1 then oI (lw l a.item i) else -2
  | none => -2
def rdL (l : List An) (k : Nat) : List Int := (List.range k).map (rdI l)
def lstL (l : List An) (i : Nat) : List Int := (List.range 4).map (fun it => oI (lw l it i))
theorem rdL_len (l : List An) (k : Nat) : (rdL l k).length = k := by simp [rdL]
theorem rdL_succ (l : List An) (k : Nat) : rdL l (k + 1) = rdL l k ++ [rdI l k] := by simp [rdL, List.range_succ]
theorem rdL_at {l : List An} {n k : Nat} (h : k < n) : (rdL l n)[k]? = some (rdI l k) := by simp [rdL, h]
theorem lstL_len (l : List An) (i : Nat) : (lstL l i).length = 4 := by simp [lstL]
theorem lstL_at {l : List An} {i it : Nat} (h : it < 4) : (lstL l i)[it]? = some (oI (lw l it i)) := by simp [lstL, h]
theorem isW_of {l : List An} {it j : Nat} {a : An} (h : l[j]? = some a) : isW l it j = true ↔ a.kind = 2 ∧ a.item = it := by unfold isW; rw [h]; simp
theorem isW_at {l : List An} {it j : Nat} (h : isW l it j = true) : ∃ a, l[j]? = some a ∧ a.kind = 2 ∧ a.item = it := by
  unfold isW at h
  cases e : l[j]? with
  | none => rw [e] at h; cases h
  | some a => rw [e] at h; exact ⟨a, rfl, by simpa using h⟩
theorem lstL_write {l : List An} {i : Nat} {a : An} (ha : l[i]? = some a) (hw : a.kind = 2) (hi : a.item < 4) : lstL l (i + 1) = (lstL l i).set a.item (i : Int) := by
  refine List.ext_getElem? fun q => ?_
  rw [List.getElem?_set]
  by_cases hq : q < 4
  · rw [lstL_at hq, lstL_at hq, lstL_len]
    by_cases e : a.item = q
    · rw [if_pos e, if_pos (by omega), lw, if_pos ((isW_of ha).2 ⟨hw, e⟩)]; rfl
    · rw [if_neg e, lw, if_neg (fun h => e ((isW_of ha).1 h).2)]
  · rw [List.getElem?_eq_none (by rw [lstL_len]; omega), List.getElem?_eq_none (l := lstL l i) (by rw [lstL_len]; omega), lstL_len]
    by_cases e : a.item = q
    · omega
    · rw [if_neg e]
theorem lstL_same {l : List An} {i : Nat} {a : An} (ha : l[i]? = some a) (hw : a.kind ≠ 2) : lstL l (i + 1) = lstL l i := by
  unfold lstL
  refine List.map_congr_left fun it _ => ?_
  rw [lw, if_neg (fun h => hw ((isW_of ha).1 h).1)]
theorem lw_some {l : List An} {it : Nat} : ∀ {i j : Nat}, lw l it i = some j → j < i ∧ isW l it j = true ∧ ∀ q, j < q → q < i → isW l it q = false
  | 0, j, h => by simp [lw] at h
  | i + 1, j, h => by
    rw [lw] at h
    split at h
    · cases h; exact ⟨Nat.lt_succ_self _, by assumption, fun q h1 h2 => by omega⟩
    · rename_i hn
      obtain ⟨h1, h2, h3⟩ := lw_some h
      refine ⟨by omega, h2, fun q h4 h5 => ?_⟩
      by_cases e : q = i
      · subst e; simpa using hn
      · exact h3 q h4 (by omega)
theorem lw_none {l : List An} {it : Nat} : ∀ {i : Nat}, lw l it i = none → ∀ q, q < i → isW l it q = false
  | 0, _, q, h => by omega
  | i + 1, h, q, hq => by
    rw [lw] at h
    split at h
    · cases h
    · rename_i hn
      by_cases e : q = i
      · subst e; simpa using hn
      · exact lw_none h q (by omega)
/-! one transaction after the other -/
def blk (l : List An) (t : Nat) : Nat → List Nat
  | 0 => []
  | i + 1 => blk l t i ++ match l[i]? with
    | some a => if a.txn = t then [i] else []
    | none => []
def atU (l : List An) (zs : List Nat) : Nat → List Nat
  | 0 => []
  | p + 1 => atU l zs p ++ match zs[p]? with
    | some t => blk l t l.length
    | none => []
def mL (l : List An) (at_ : List Nat) : List An := at_.filterMap (fun i => l[i]?)
theorem blk_yes {l : List An} {t i : Nat} {a : An} (h : l[i]? = some a) (e : a.txn = t) : blk l t (i + 1) = blk l t i ++ [i] := by rw [blk, h]; simp [e]
theorem blk_no {l : List An} {t i : Nat} {a : An} (h : l[i]? = some a) (e : a.txn ≠ t) : blk l t (i + 1) = blk l t i := by rw [blk, h]; simp [e]
theorem blk_mem {l : List An} {t : Nat} : ∀ {k i : Nat}, i ∈ blk l t k ↔ i < k ∧ ∃ a, l[i]? = some a ∧ a.txn = t
  | 0, i => by simp [blk]
  | k + 1, i => by
    rw [blk, List.mem_append, blk_mem (k := k)]
    constructor
    · rintro (⟨h1, h2⟩ | h)
      · exact ⟨by omega, h2⟩
      · cases e : l[k]? with
        | none => rw [e] at h; cases h
        | some a =>
          rw [e] at h
          dsimp only at h
          split at h
          · rw [List.mem_singleton] at h; subst h; exact ⟨Nat.lt_succ_self _, a, e, by assumption⟩
          · cases h
    · rintro ⟨h1, a, h2, h3⟩
      by_cases c : i = k
      · subst c; right; rw [h2]; simp [h3]
      · exact .inl ⟨by omega, a, h2, h3⟩
theorem blk_sorted {l : List An} {t : Nat} : ∀ k, (blk l t k).Pairwise (· < ·)
  | 0 => List.Pairwise.nil
  | k + 1 => by
    rw [blk, List.pairwise_append]
    refine ⟨blk_sorted k, ?_, fun x hx y hy => ?_⟩
    · cases l[k]? with
      | none => exact List.Pairwise.nil
      | some a => dsimp only; split; exact List.pairwise_singleton ..; exact List.Pairwise.nil
    · have h1 := (blk_mem.1 hx).1
      cases e : l[k]? with
      | none => rw [e] at hy; cases hy
      | some a =>
        rw [e] at hy; dsimp only at hy
        split at hy
        · rw [List.mem_singleton] at hy; omega
        · cases hy
def RelA (l : List An) (zs : List Nat) (i' i : Nat) : Prop := ∃ x' x, l[i']? = some x' ∧ l[i]? = some x ∧ ((x'.txn = x.txn ∧ i' < i) ∨ ∃ p q : Nat, p < q ∧ zs[p]? = some x'.txn ∧ zs[q]? = some x.txn)
theorem atU_mem {l : List An} {zs : List Nat} : ∀ {p i : Nat}, i ∈ atU l zs p ↔ ∃ q a, q < p ∧ l[i]? = some a ∧ zs[q]? = some a.txn
  | 0, i => by simp [atU]
  | p + 1, i => by
    rw [atU, List.mem_append, atU_mem (p := p)]
    constructor
    · rintro (⟨q, a, h1, h2⟩ | h)
      · exact ⟨q, a, by omega, h2⟩
      · cases e : zs[p]? with
        | none => rw [e] at h; cases h
        | some t =>
          rw [e] at h
          obtain ⟨_, a, h2, h3⟩ := blk_mem.1 h
          exact ⟨p, a, Nat.lt_succ_self _, h2, by rw [e, h3]⟩
    · rintro ⟨q, a, h1, h2, h3⟩
      by_cases c : q = p
      · subst c; right; rw [h3]; exact blk_mem.2 ⟨(List.getElem?_eq_some_iff.1 h2).1, a, h2, rfl⟩
      · exact .inl ⟨q, a, by omega, h2, h3⟩
theorem atU_rel {l : List An} {zs : List Nat} : ∀ p, (atU l zs p).Pairwise (RelA l zs)
  | 0 => List.Pairwise.nil
  | p + 1 => by
    rw [atU, List.pairwise_append]
    refine ⟨atU_rel p, ?_, fun i' hi' i hi => ?_⟩
    · cases zs[p]? with
      | none => exact List.Pairwise.nil
      | some t =>
        refine (blk_sorted l.length).imp_of_mem fun {a b} ha hb hab => ?_
        obtain ⟨_, x, h1, h2⟩ := blk_mem.1 ha
        obtain ⟨_, y, h3, h4⟩ := blk_mem.1 hb
        exact ⟨x, y, h1, h3, .inl ⟨by rw [h2, h4], hab⟩⟩
    · obtain ⟨q, x, h1, h2, h3⟩ := atU_mem.1 hi'
      cases e : zs[p]? with
      | none => rw [e] at hi; cases hi
      | some t =>
        rw [e] at hi
        obtain ⟨_, y, h4, h5⟩ := blk_mem.1 hi
        exact ⟨x, y, h2, h4, .inr ⟨q, p, h1, h3, by rw [e, h5]⟩⟩
theorem mL_snoc {l : List An} {at_ : List Nat} {i : Nat} {a : An} (h : l[i]? = some a) : mL l (at_ ++ [i]) = mL l at_ ++ [a] := by
  unfold mL; rw [List.filterMap_append]; simp [h]
theorem mL_at {l : List An} : ∀ {at_ : List Nat}, (∀ i ∈ at_, i < l.length) → (mL l at_).length = at_.length ∧ ∀ k : Nat, (mL l at_)[k]? = (at_[k]?).bind (fun i => l[i]?)
  | [], _ => ⟨rfl, fun k => by simp [mL]⟩
  | i :: at_, h => by
    obtain ⟨a, ha⟩ := get_of_lt (h i (by simp))
    obtain ⟨h1, h2⟩ := mL_at (at_ := at_) fun j hj => h j (by simp [hj])
    have e : mL l (i :: at_) = a :: mL l at_ := by unfold mL; rw [List.filterMap_cons, ha]
    rw [e]
    refine ⟨by simp [h1], fun k => ?_⟩
    cases k with
    | zero => simp [ha]
    | succ k => simpa using h2 k
theorem nd_pos {xs : List Nat} {i j x : Nat} (hn : xs.Nodup) (hi : xs[i]? = some x) (hj : xs[j]? = some x) : i = j := by
  obtain ⟨h1, h2⟩ := List.getElem?_eq_some_iff.1 hi
  obtain ⟨h3, h4⟩ := List.getElem?_eq_some_iff.1 hj
  exact (List.getElem_inj hn).1 (by rw [h2, h4])
section
variable {l : List An} {zs : List Nat} (T : Topo (Key l) (Edge l) zs)
include T
theorem RelA.irr {i : Nat} : ¬ RelA l zs i i := by
  rintro ⟨x, y, h1, h2, h3⟩
  rw [h1] at h2; cases h2
  rcases h3 with ⟨_, h⟩ | ⟨p, q, h, h4, h5⟩
  · omega
  · have := nd_pos T.nd h4 h5; omega
theorem at_nodup : (atU l zs zs.length).Nodup := (atU_rel zs.length).imp fun {a b} h e => by subst e; exact RelA.irr T h
theorem at_full (i : Nat) : i ∈ atU l zs zs.length ↔ i < l.length := by
  rw [atU_mem]
  constructor
  · rintro ⟨q, a, _, h, _⟩; exact (List.getElem?_eq_some_iff.1 h).1
  · intro h
    obtain ⟨a, ha⟩ := get_of_lt h
    obtain ⟨q, hq⟩ := List.getElem?_of_mem ((T.key a.txn).1 ⟨i, a, ha, rfl⟩)
    exact ⟨q, a, (List.getElem?_eq_some_iff.1 hq).1, ha, hq⟩
theorem at_len : (atU l zs zs.length).length = l.length := by
  have h1 := nodup_lt l.length _ (at_nodup T) fun i hi => (at_full T i).1 hi
  have h2 := nodup_sub (List.range l.length) (atU l zs zs.length) List.nodup_range fun x hx => (at_full T x).2 (List.mem_range.1 hx)
  rw [List.length_range] at h2; omega
def Rltd (x y : An) : Prop := x.txn = y.txn ∨ clashB x y = true
omit T in
theorem Rltd.symm {x y : An} (h : Rltd x y) : Rltd y x := h.imp Eq.symm fun h => by rw [clash_symm]; exact h
theorem op_fwd {k' k i' i : Nat} {x' x : An} (h1 : (atU l zs zs.length)[k']? = some i') (h2 : (atU l zs zs.length)[k]? = some i) (hx' : l[i']? = some x') (hx : l[i]? = some x) (hr : Rltd x' x) (hk : k' < k) : i' < i := by
  obtain ⟨q1, q2⟩ := List.getElem?_eq_some_iff.1 h1
  obtain ⟨q3, q4⟩ := List.getElem?_eq_some_iff.1 h2
  have h := (List.pairwise_iff_getElem.1 (atU_rel (l := l) (zs := zs) zs.length)) k' k q1 q3 hk
  rw [q2, q4] at h
  obtain ⟨y', y, h3, h4, h5⟩ := h
  rw [hx'] at h3; rw [hx] at h4; cases h3; cases h4
  rcases h5 with ⟨_, h⟩ | ⟨p, q, h6, h7, h8⟩
  · exact h
  · rcases hr with e | hc
    · rw [e] at h7; have := nd_pos T.nd h7 h8; omega
    · rcases Nat.lt_trichotomy i' i with c | c | c
      · exact c
      · subst c; rw [hx'] at hx; cases hx
        have := nd_pos T.nd h7 h8; omega
      · have he : Edge l x.txn x'.txn := ⟨i, i', x, x', c, hx, hx', by rw [clash_symm]; exact hc, rfl, rfl⟩
        have hm := T.ed p _ h7 _ he
        obtain ⟨r, hr⟩ := List.getElem?_of_mem hm
        rw [List.getElem?_take] at hr
        split at hr
        · have := nd_pos T.nd hr h8; omega
        · cases hr
theorem op_iff {k' k i' i : Nat} {x' x : An} (h1 : (atU l zs zs.length)[k']? = some i') (h2 : (atU l zs zs.length)[k]? = some i) (hx' : l[i']? = some x') (hx : l[i]? = some x) (hr : Rltd x' x) : k' < k ↔ i' < i := by
  refine ⟨op_fwd T h1 h2 hx' hx hr, fun h => ?_⟩
  rcases Nat.lt_trichotomy k' k with c | c | c
  · exact c
  · subst c; rw [h1] at h2; cases h2; omega
  · have := op_fwd T h2 h1 hx hx' hr.symm c; omega
theorem m_len : (mL l (atU l zs zs.length)).length = l.length := by
  rw [(mL_at fun i hi => (at_full T i).1 hi).1, at_len T]
theorem m_at {k i : Nat} (h : (atU l zs zs.length)[k]? = some i) : (mL l (atU l zs zs.length))[k]? = l[i]? := by
  rw [(mL_at fun i hi => (at_full T i).1 hi).2, h]; rfl
theorem m_isW {it k i : Nat} (h : (atU l zs zs.length)[k]? = some i) : isW (mL l (atU l zs zs.length)) it k = isW l it i := by
  unfold isW; rw [m_at T h]
theorem m_isW_at {it k : Nat} (h : isW (mL l (atU l zs zs.length)) it k = true) : ∃ i, (atU l zs zs.length)[k]? = some i ∧ isW l it i = true := by
  obtain ⟨a, ha, _⟩ := isW_at h
  have hk := (List.getElem?_eq_some_iff.1 ha).1
  rw [m_len T, ← at_len T] at hk
  obtain ⟨i, hi⟩ := get_of_lt hk
  exact ⟨i, hi, by rw [← m_isW T hi]; exact h⟩
omit T in
theorem rltd_w {it i j : Nat} {x y : An} (hx : l[i]? = some x) (hy : l[j]? = some y) (hw : x.kind = 2 ∧ x.item = it) (hk : (y.kind = 1 ∨ y.kind = 2) ∧ y.item = it) : Rltd x y := by
  by_cases e : x.txn = y.txn
  · exact .inl e
  · exact .inr (clashB_iff.2 ⟨by omega, by omega, e, by omega, .inl hw.1⟩)
theorem lw_corr {it k I : Nat} (hb : ∀ k' i', (atU l zs zs.length)[k']? = some i' → isW l it i' = true → (k' < k ↔ i' < I)) :
    (lw (mL l (atU l zs zs.length)) it k = none ∧ lw l it I = none) ∨ ∃ k' i', lw (mL l (atU l zs zs.length)) it k = some k' ∧ (atU l zs zs.length)[k']? = some i' ∧ lw l it I = some i' := by
  cases e : lw (mL l (atU l zs zs.length)) it k with
  | none =>
    left
    refine ⟨rfl, ?_⟩
    cases e2 : lw l it I with
    | none => rfl
    | some j =>
      exfalso
      obtain ⟨h1, h2, _⟩ := lw_some e2
      obtain ⟨a, ha, _⟩ := isW_at h2
      obtain ⟨k', hk'⟩ := List.getElem?_of_mem ((at_full T j).2 (List.getElem?_eq_some_iff.1 ha).1)
      have := lw_none e k' ((hb k' j hk' h2).2 h1)
      rw [m_isW T hk', h2] at this; cases this
  | some k' =>
    right
    obtain ⟨h1, h2, h3⟩ := lw_some e
    obtain ⟨i', hi', hw⟩ := m_isW_at T h2
    refine ⟨k', i', rfl, hi', ?_⟩
    have hlt := (hb k' i' hi' hw).1 h1
    obtain ⟨x, hx, hxw⟩ := isW_at hw
    cases e2 : lw l it I with
    | none => have := lw_none e2 i' hlt; rw [hw] at this; cases this
    | some j =>
      obtain ⟨g1, g2, g3⟩ := lw_some e2
      obtain ⟨y, hy, hyw⟩ := isW_at g2
      obtain ⟨q, hq⟩ := List.getElem?_of_mem ((at_full T j).2 (List.getElem?_eq_some_iff.1 hy).1)
      rcases Nat.lt_trichotomy i' j with c | c | c
      · have hqk : q < k := (hb q j hq g2).2 g1
        have hkq : k' < q := (op_iff T hi' hq hx hy (rltd_w hx hy hxw ⟨.inr hyw.1, hyw.2⟩)).2 c
        have := h3 q hkq hqk
        rw [m_isW T hq, g2] at this; cases this
      · rw [c]
      · have := g3 i' c hlt
        rw [hw] at this; cases this
/-- each read reads from the same write -/
theorem reads_same {k i : Nat} (h : (atU l zs zs.length)[k]? = some i) : (rdI l i < 0 ∧ rdI (mL l (atU l zs zs.length)) k = rdI l i) ∨ ∃ k' i' : Nat, rdI (mL l (atU l zs zs.length)) k = (k' : Int) ∧ (atU l zs zs.length)[k']? = some i' ∧ rdI l i = (i' : Int) := by
  have hi := (at_full T i).1 (List.mem_of_getElem? h)
  obtain ⟨a, ha⟩ := get_of_lt hi
  have hm : (mL l (atU l zs zs.length))[k]? = some a := by rw [m_at T h, ha]
  unfold rdI
  rw [hm, ha]
  dsimp only
  by_cases hk : a.kind = 1
  · rw [if_pos hk, if_pos hk]
    rcases lw_corr T (it := a.item) (k := k) (I := i) (fun k' i' h1 h2 => by
      obtain ⟨x, hx, hxw⟩ := isW_at h2
      exact op_iff T h1 h hx ha (rltd_w hx ha hxw ⟨.inl hk, rfl⟩)) with ⟨h1, h2⟩ | ⟨k', i', h1, h2, h3⟩
    · left; rw [h1, h2]; exact ⟨by decide, rfl⟩
    · right; rw [h1, h3]; exact ⟨k', i', rfl, h2, rfl⟩
  · rw [if_neg hk, if_neg hk]; exact .inl ⟨by decide, rfl⟩
/-- each item is written last by the same -/
theorem last_same (it : Nat) : (lw (mL l (atU l zs zs.length)) it l.length = none ∧ lw l it l.length = none) ∨ ∃ k' i', lw (mL l (atU l zs zs.length)) it l.length = some k' ∧ (atU l zs zs.length)[k']? = some i' ∧ lw l it l.length = some i' :=
  lw_corr T fun k' i' h1 _ => by
    have h2 := (List.getElem?_eq_some_iff.1 h1).1
    have h3 := (at_full T i').1 (List.mem_of_getElem? h1)
    rw [at_len T] at h2
    exact ⟨fun _ => h3, fun _ => h2⟩
theorem m_ok (hok : OkN l) : OkN (mL l (atU l zs zs.length)) := ⟨by rw [m_len T]; exact hok.len, fun k a ha => by
  have hk := (List.getElem?_eq_some_iff.1 ha).1
  rw [m_len T, ← at_len T] at hk
  obtain ⟨i, hi⟩ := get_of_lt hk
  rw [m_at T hi] at ha
  exact hok.all i a ha⟩
end
theorem blk_le {l : List An} {t : Nat} : ∀ k, (blk l t k).length ≤ k
  | 0 => Nat.le_refl _
  | k + 1 => by
    have := blk_le (l := l) (t := t) k
    rw [blk, List.length_append]
    cases l[k]? with
    | none => simp; omega
    | some a => dsimp only; split <;> simp <;> omega
end Go.Proofs.Ytcepfpbhfobbeaa
