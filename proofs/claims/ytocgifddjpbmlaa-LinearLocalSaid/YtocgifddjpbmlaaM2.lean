/- What there was up to a moment has an order, too. Plain words. No condition. -/
import Derived.Test.YtocgifddjpbmlaaB1
namespace Go.Proofs.Ytocgifddjpbmlaa
open Go.RowKit
set_option linter.unusedVariables false
set_option linter.unusedSimpArgs false
set_option maxRecDepth 100000

/-! parts of a list, and where its elements stand there -/
section
variable {α : Type} (p : α → Bool)
def rk (l : List α) (i : Nat) : Nat := ((l.take i).filter p).length
theorem rk_get {l : List α} {i : Nat} {a : α} (h : l[i]? = some a) (hp : p a = true) : (l.filter p)[rk p l i]? = some a := by
  obtain ⟨hlt, rfl⟩ := List.getElem?_eq_some_iff.1 h
  unfold rk
  conv => lhs; arg 1; rw [← List.take_append_drop i l, List.filter_append]
  rw [List.getElem?_append_right (Nat.le_refl _), Nat.sub_self, List.drop_eq_getElem_cons hlt, List.filter_cons_of_pos hp]
  rfl
theorem rk_succ {l : List α} {i : Nat} {a : α} (h : l[i]? = some a) : rk p l (i + 1) = rk p l i + (if p a = true then 1 else 0) := by
  unfold rk
  rw [take_of h, List.filter_append, List.length_append]
  by_cases e : p a = true <;> simp [e]
theorem rk_mono {l : List α} {i j : Nat} (h : i ≤ j) : rk p l i ≤ rk p l j := by
  unfold rk
  rw [show l.take i = (l.take j).take i by rw [List.take_take, Nat.min_eq_left h]]
  exact List.Sublist.length_le (List.Sublist.filter _ (List.take_sublist ..))
theorem rk_lt {l : List α} {i j : Nat} {a : α} (h : l[i]? = some a) (hp : p a = true) (hij : i < j) : rk p l i < rk p l j := by
  have h1 := rk_succ p h
  rw [if_pos hp] at h1
  have := rk_mono p (l := l) (show i + 1 ≤ j from hij)
  omega
theorem rk_inj {l : List α} {i j : Nat} {a b : α} (hi : l[i]? = some a) (hj : l[j]? = some b) (pa : p a = true) (pb : p b = true) (h : rk p l i = rk p l j) : i = j := by
  rcases Nat.lt_trichotomy i j with hl | he | hl
  · have := rk_lt p hi pa hl; omega
  · exact he
  · have := rk_lt p hj pb hl; omega
theorem rk_inv : ∀ {l : List α} {j : Nat} {a : α}, (l.filter p)[j]? = some a → ∃ i, l[i]? = some a ∧ p a = true ∧ rk p l i = j
  | [], j, a, h => by simp at h
  | x :: l, j, a, h => by
    by_cases e : p x = true
    · rw [List.filter_cons_of_pos e] at h
      cases j with
      | zero => simp at h; subst h; exact ⟨0, rfl, e, rfl⟩
      | succ j =>
        obtain ⟨i, hi, pa, hr⟩ := rk_inv (l := l) (j := j) (by simpa using h)
        refine ⟨i + 1, by simpa using hi, pa, ?_⟩
        unfold rk at hr ⊢
        rw [List.take_succ_cons, List.filter_cons_of_pos e]; simp [hr]
    · rw [List.filter_cons_of_neg e] at h
      obtain ⟨i, hi, pa, hr⟩ := rk_inv (l := l) (j := j) h
      refine ⟨i + 1, by simpa using hi, pa, ?_⟩
      unfold rk at hr ⊢
      rw [List.take_succ_cons, List.filter_cons_of_neg e]; exact hr
end
/-- nothing that is not yet in is ahead of what is in -/
def Cl (h : List Op) (l : List Nat) : Prop := ∀ (j i : Nat) (b a : Op), j ∈ l → ¬ i ∈ l → h[j]? = some b → h[i]? = some a → ¬ aheadB a b = true
theorem Cl.nil (h : List Op) : Cl h [] := fun j i b a hj => by cases hj
theorem Cl.may {h : List Op} {l : List Nat} {i : Nat} (C : Cl h l) (H : mayB h l i = true) : Cl h (l ++ [i]) := fun j k b a hj hk hb ha => by
  rw [List.mem_append, not_or] at hk
  rcases List.mem_append.1 hj with h1 | h1
  · exact C j k b a h1 hk.1 hb ha
  · simp at h1; subst h1
    exact ((mayB_iff hb).1 H).2.2 k a ha hk.1

def cutO (t : Int) (a : Op) : Op := if t < a.to then ⟨a.who, a.reg, a.write, a.val, a.fr, -1⟩ else a
def cutP (t : Int) (a : Op) : Bool := decide (a.fr ≤ t)
def cutH (t : Int) (h : List Op) : List Op := (h.filter (cutP t)).map (cutO t)
theorem cutH_len (t : Int) (h : List Op) : (cutH t h).length ≤ h.length := by unfold cutH; rw [List.length_map]; exact List.length_filter_le ..
theorem cutH_snoc {t : Int} {h : List Op} {k : Nat} {x : Op} (hx : h[k]? = some x) : cutH t (h.take (k + 1)) = cutH t (h.take k) ++ (if x.fr ≤ t then [cutO t x] else []) := by
  unfold cutH
  rw [take_of hx, List.filter_append, List.map_append]
  by_cases e : x.fr ≤ t <;> simp [cutP, e]
section
variable {h : List Op} {t : Int}
theorem cut_get {i : Nat} {a : Op} (hi : h[i]? = some a) (hp : a.fr ≤ t) : (cutH t h)[rk (cutP t) h i]? = some (cutO t a) := by
  unfold cutH
  rw [List.getElem?_map, rk_get (cutP t) hi (by simp [cutP, hp])]; rfl
theorem cut_inv {j : Nat} {b : Op} (hj : (cutH t h)[j]? = some b) : ∃ (i : Nat) (a : Op), h[i]? = some a ∧ a.fr ≤ t ∧ b = cutO t a ∧ rk (cutP t) h i = j := by
  unfold cutH at hj
  rw [List.getElem?_map] at hj
  cases e : (h.filter (cutP t))[j]? with
  | none => rw [e] at hj; cases hj
  | some a =>
    rw [e] at hj; cases hj
    obtain ⟨i, hi, hp, hr⟩ := rk_inv (cutP t) e
    exact ⟨i, a, hi, by simpa [cutP] using hp, rfl, hr⟩
theorem cut_same (a : Op) : (cutO t a).who = a.who ∧ (cutO t a).reg = a.reg ∧ (cutO t a).write = a.write ∧ (cutO t a).val = a.val ∧ (cutO t a).fr = a.fr := by
  unfold cutO; split <;> exact ⟨rfl, rfl, rfl, rfl, rfl⟩
theorem cut_to {a : Op} (h0 : 0 ≤ (cutO t a).to) : (cutO t a).to = a.to ∧ a.to ≤ t := by
  unfold cutO at h0 ⊢
  split at h0
  · simp at h0
  · rename_i hn; rw [if_neg hn]; exact ⟨rfl, by omega⟩
theorem cut_ahead {a b : Op} (H : aheadB (cutO t a) (cutO t b) = true) : aheadB a b = true := by
  obtain ⟨h1, h2⟩ := aheadB_iff.1 H
  obtain ⟨h3, h4⟩ := cut_to h1
  have := (cut_same (t := t) b).2.2.2.2
  exact aheadB_iff.2 ⟨by omega, by omega⟩
theorem cut_ok (hok : OkH h) : OkH (cutH t h) := by
  refine ⟨Nat.le_trans (cutH_len t h) hok.len, fun j b hj => ?_, fun i j a b hi hj hne hw => ?_⟩
  · obtain ⟨i, a, hi, hp, rfl, _⟩ := cut_inv hj
    have h1 := hok.reg _ _ hi
    obtain ⟨_, e2, _, _, e5⟩ := cut_same (t := t) a
    rw [e2, e5]
    refine ⟨h1.1, h1.2.1, h1.2.2.1, ?_⟩
    by_cases ht : t < a.to
    · left; unfold cutO; rw [if_pos ht]
    · unfold cutO; rw [if_neg ht]; exact h1.2.2.2
  · obtain ⟨i1, a1, hi1, hp1, rfl, hr1⟩ := cut_inv hi
    obtain ⟨j1, b1, hj1, hq1, rfl, hr2⟩ := cut_inv hj
    have hne1 : i1 ≠ j1 := fun e => hne (by rw [← hr1, ← hr2, e])
    rw [(cut_same (t := t) a1).1, (cut_same (t := t) b1).1] at hw
    have e5 := (cut_same (t := t) a1).2.2.2.2
    have e6 := (cut_same (t := t) b1).2.2.2.2
    have two := fun (a1 b1 : Op) (q : b1.fr ≤ t) (H : aheadB a1 b1 = true) => (show aheadB (cutO t a1) (cutO t b1) = true by
      obtain ⟨h1, h2⟩ := aheadB_iff.1 H
      have : cutO t a1 = a1 := by unfold cutO; rw [if_neg (by omega)]
      rw [this]
      exact aheadB_iff.2 ⟨h1, by rw [(cut_same (t := t) b1).2.2.2.2]; exact h2⟩)
    rcases hok.two _ _ _ _ hi1 hj1 hne1 hw with H | H
    · exact .inl (two _ _ hq1 H)
    · exact .inr (two _ _ hp1 H)
/-- what of an order stays -/
def keepC (h : List Op) (t : Int) (i : Nat) : Bool := match h[i]? with | some a => decide (a.fr ≤ t) && (a.write || decide (a.to ≤ t)) | none => false
theorem keepC_iff {i : Nat} {a : Op} (hi : h[i]? = some a) : keepC h t i = true ↔ a.fr ≤ t ∧ (a.write = true ∨ a.to ≤ t) := by unfold keepC; rw [hi]; simp
def trC (h : List Op) (t : Int) (l : List Nat) : List Nat := (l.filter (keepC h t)).map (rk (cutP t) h)
theorem trC_yes {l : List Nat} {i : Nat} (hk : keepC h t i = true) : trC h t (l ++ [i]) = trC h t l ++ [rk (cutP t) h i] := by simp [trC, hk]
theorem trC_no {l : List Nat} {i : Nat} (hk : ¬ keepC h t i = true) : trC h t (l ++ [i]) = trC h t l := by simp [trC, hk]
theorem mem_trC {l : List Nat} (G : Gd h l) {i : Nat} {a : Op} (hi : h[i]? = some a) (hk : keepC h t i = true) : rk (cutP t) h i ∈ trC h t l ↔ i ∈ l := by
  unfold trC
  rw [List.mem_map]
  constructor
  · rintro ⟨j, hj, e⟩
    rw [List.mem_filter] at hj
    obtain ⟨b, hb⟩ := get_of_lt (G.lt j hj.1)
    have h1 := (keepC_iff hb).1 hj.2
    have h2 := (keepC_iff hi).1 hk
    have := rk_inj (cutP t) hb hi (by simp [cutP, h1.1]) (by simp [cutP, h2.1]) e
    exact this ▸ hj.1
  · exact fun hm => ⟨i, List.mem_filter.2 ⟨hm, hk⟩, rfl⟩
theorem regs_trC : ∀ (l : List Nat) (R : Nat → Int), (∀ i ∈ l, ∀ a, h[i]? = some a → a.fr ≤ t) → (trC h t l).foldl (goR (cutH t h)) R = l.foldl (goR h) R
  | [], R, _ => rfl
  | i :: l, R, hl => by
    have ih := fun R => regs_trC l R fun j hj => hl j (by simp [hj])
    cases e : h[i]? with
    | none =>
      have hk : ¬ keepC h t i = true := by unfold keepC; rw [e]; simp
      rw [show trC h t (i :: l) = trC h t l by simp [trC, hk], ih, List.foldl_cons, show goR h R i = R by unfold goR; rw [e]]
    | some a =>
      have hf := hl i (by simp) a e
      by_cases hk : keepC h t i = true
      · rw [show trC h t (i :: l) = rk (cutP t) h i :: trC h t l by simp [trC, hk], List.foldl_cons, List.foldl_cons, ih]
        congr 1
        unfold goR
        rw [cut_get e hf, e]
        obtain ⟨_, e2, e3, e4, _⟩ := cut_same (t := t) a
        simp only [stepR, e2, e3, e4]
      · rw [show trC h t (i :: l) = trC h t l by simp [trC, hk], ih, List.foldl_cons]
        congr 1
        unfold goR
        rw [e]
        have : ¬ a.write = true := fun hw => hk ((keepC_iff e).2 ⟨hf, .inl hw⟩)
        simp [stepR, this]
theorem full_trC {l : List Nat} (G : Gd h l) (H : fullB h l = true) : fullB (cutH t h) (trC h t l) = true := fullB_iff.2 fun j b hj h0 => by
  obtain ⟨i, a, hi, hp, rfl, rfl⟩ := cut_inv hj
  obtain ⟨h1, h2⟩ := cut_to h0
  exact (mem_trC G hi ((keepC_iff hi).2 ⟨hp, .inr h2⟩)).2 (fullB_iff.1 H i a hi (by omega))
theorem may_trC {l : List Nat} {i : Nat} (G : Gd h l) (C : Cl h l) (hk : keepC h t i = true) (H : mayB h l i = true) : mayB (cutH t h) (trC h t l) (rk (cutP t) h i) = true := by
  obtain ⟨a, hi⟩ := get_of_lt (mayB_lt H).1
  obtain ⟨h1, h2, h3⟩ := (mayB_iff hi).1 H
  obtain ⟨hf, hw⟩ := (keepC_iff hi).1 hk
  obtain ⟨_, e2, e3, e4, e5⟩ := cut_same (t := t) a
  refine (mayB_iff (cut_get hi hf)).2 ⟨fun hm => h1 ((mem_trC G hi hk).1 hm), ?_, fun j b hj hm hab => ?_⟩
  · rw [e2, e3, e4]
    by_cases hwr : a.write = true
    · exact .inl hwr
    · have hto : a.to ≤ t := hw.resolve_left hwr
      obtain ⟨h0, hr⟩ := h2.resolve_left hwr
      right
      refine ⟨by unfold cutO; rw [if_neg (by omega)]; exact h0, ?_⟩
      unfold regsL at hr ⊢
      rw [regs_trC l _ fun j hj b hb => Classical.byContradiction fun hlate => C j i b a hj h1 hb hi (aheadB_iff.2 ⟨h0, by omega⟩)]
      exact hr
  · obtain ⟨k, b0, hk0, hp0, rfl, rfl⟩ := cut_inv hj
    have h0 := (aheadB_iff.1 hab).1
    obtain ⟨q1, q2⟩ := cut_to h0
    have hkk : keepC h t k = true := (keepC_iff hk0).2 ⟨hp0, .inr q2⟩
    exact h3 k b0 hk0 (fun hm' => hm ((mem_trC G hk0 hkk).2 hm')) (cut_ahead hab)
theorem ext_trC {l m : List Nat} (E : Ext h l m) : Gd h l → Cl h l → Ext (cutH t h) (trC h t l) (trC h t m) := by
  induction E with
  | done hf => exact fun G C => .done (full_trC G hf)
  | @step l m i hm E ih =>
    intro G C
    have := ih (G.may hm) (C.may hm)
    by_cases hk : keepC h t i = true
    · rw [trC_yes hk] at this; exact .step (may_trC G C hk hm) this
    · rw [trC_no hk] at this; exact this
theorem front_is (H : (FL h []).isSome = true) : (FL (cutH t h) []).isSome = true := by
  obtain ⟨m, E⟩ := FL_iff.1 H
  exact FL_iff.2 ⟨_, ext_trC E (Gd.nil h) (Cl.nil h)⟩
end
end Go.Proofs.Ytocgifddjpbmlaa
