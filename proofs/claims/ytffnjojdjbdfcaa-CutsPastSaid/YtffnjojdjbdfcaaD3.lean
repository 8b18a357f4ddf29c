/- Cuts: the lesser and the greater of two, none and all, one step more. In plain words. No condition. -/
import Derived.Test.YtffnjojdjbdfcaaA7
namespace Go.Proofs.Ytffnjojdjbdfcaa
open Go.RowKit
set_option linter.unusedVariables false
set_option linter.unusedSimpArgs false
set_option maxRecDepth 100000

theorem near_len {g : Bool} {a b : List Nat} (h : a.length = b.length) : (near g a b).length = a.length := by
  unfold near; rw [List.length_zipWith]; omega
theorem near_at {g : Bool} {a b : List Nat} (h : a.length = b.length) (p : Nat) : (near g a b).getD p 0 = ng g (a.getD p 0) (b.getD p 0) := by
  rcases Nat.lt_or_ge p a.length with h1 | h1
  · obtain ⟨x, hx⟩ := get_of_lt (xs := a) (k := p) h1
    obtain ⟨y, hy⟩ := get_of_lt (xs := b) (k := p) (by omega)
    rw [getD_of hx, getD_of hy]
    refine getD_of ?_
    unfold near
    rw [List.getElem?_zipWith, hx, hy]
  · have e1 : a.getD p 0 = 0 := by rw [List.getD_eq_getElem?_getD, List.getElem?_eq_none h1]; rfl
    have e2 : b.getD p 0 = 0 := by rw [List.getD_eq_getElem?_getD, List.getElem?_eq_none (by omega)]; rfl
    rw [e1, e2, List.getD_eq_getElem?_getD, List.getElem?_eq_none (by rw [near_len h]; exact h1)]
    cases g <;> rfl
theorem near_min {a b : List Nat} (h : a.length = b.length) (p : Nat) : (near false a b).getD p 0 = min (a.getD p 0) (b.getD p 0) := by
  rw [near_at h]; unfold ng
  by_cases q : a.getD p 0 < b.getD p 0
  · rw [decide_eq_true q, if_neg (by decide)]; omega
  · rw [decide_eq_false q, if_pos rfl]; omega
theorem near_max {a b : List Nat} (h : a.length = b.length) (p : Nat) : (near true a b).getD p 0 = max (a.getD p 0) (b.getD p 0) := by
  rw [near_at h]; unfold ng
  by_cases q : a.getD p 0 < b.getD p 0
  · rw [decide_eq_true q, if_pos rfl]; omega
  · rw [decide_eq_false q, if_neg (by decide)]; omega
theorem Cut.of_getD {n : Nat} {l : List En} {c : List Nat} (h1 : c.length = n) (h2 : ∀ p, c.getD p 0 ≤ cntL l p l.length) : Cut n l c :=
  ⟨h1, fun p k hk => by have := h2 p; rwa [getD_of hk] at this⟩
theorem Cut.at_ {n : Nat} {l : List En} {c : List Nat} (h : Cut n l c) (p : Nat) : c.getD p 0 ≤ cntL l p l.length := by
  rcases Nat.lt_or_ge p c.length with h1 | h1
  · obtain ⟨x, hx⟩ := get_of_lt (xs := c) (k := p) h1
    rw [getD_of hx]; exact h.le p x hx
  · rw [List.getD_eq_getElem?_getD, List.getElem?_eq_none h1]; exact Nat.zero_le _
theorem Cut.near {n : Nat} {l : List En} {a b : List Nat} {g : Bool} (ha : Cut n l a) (hb : Cut n l b) : Cut n l (near g a b) := by
  have hl : a.length = b.length := ha.len.trans hb.len.symm
  refine Cut.of_getD ((near_len hl).trans ha.len) fun p => ?_
  have h1 := ha.at_ p
  have h2 := hb.at_ p
  cases g
  · rw [near_min hl]; omega
  · rw [near_max hl]; omega
theorem Whole.near {l : List En} {a b : List Nat} {g : Bool} (hl : a.length = b.length) (ha : Whole l a) (hb : Whole l b) : Whole l (near g a b) := by
  intro i e he hk hin
  obtain ⟨e', he', hc⟩ := hin
  cases he.symm.trans he'
  cases g
  · rw [near_min hl] at hc
    obtain ⟨s, hs, h1⟩ := ha i e he hk ⟨e, he, by omega⟩
    obtain ⟨s', hs', h2⟩ := hb i e he hk ⟨e, he, by omega⟩
    cases hs.symm.trans hs'
    exact ⟨s, hs, by rw [near_min hl]; omega⟩
  · rw [near_max hl] at hc
    by_cases q : cntL l e.who i < a.getD e.who 0
    · obtain ⟨s, hs, h1⟩ := ha i e he hk ⟨e, he, q⟩
      exact ⟨s, hs, by rw [near_max hl]; omega⟩
    · obtain ⟨s, hs, h1⟩ := hb i e he hk ⟨e, he, by omega⟩
      exact ⟨s, hs, by rw [near_max hl]; omega⟩
theorem rep_at (n p : Nat) : (List.replicate n 0).getD p 0 = 0 := by
  rw [List.getD_eq_getElem?_getD, List.getElem?_replicate]; split <;> rfl
theorem cut_zero (n : Nat) (l : List En) : Cut n l (List.replicate n 0) := Cut.of_getD (by simp) fun p => by rw [rep_at]; exact Nat.zero_le _
theorem whole_zero (n : Nat) (l : List En) : Whole l (List.replicate n 0) := fun i e he hk ⟨e', _, h⟩ => by rw [rep_at] at h; omega
/-- how many of the first k are each one's -/
def fullC (n : Nat) (l : List En) (k : Nat) : List Nat := (List.range n).map fun p => cntL l p k
theorem full_len (n : Nat) (l : List En) (k : Nat) : (fullC n l k).length = n := by simp [fullC]
theorem full_get {n : Nat} {l : List En} {k p : Nat} (h : p < n) : (fullC n l k)[p]? = some (cntL l p k) := by
  simp [fullC, h]
theorem full_zero (n : Nat) (l : List En) : fullC n l 0 = List.replicate n 0 := by
  refine List.ext_getElem? fun p => ?_
  rcases Nat.lt_or_ge p n with h | h
  · rw [full_get h, List.getElem?_replicate, if_pos h]; simp [cntL]
  · rw [List.getElem?_eq_none (by rw [full_len]; exact h), List.getElem?_eq_none (by simp; exact h)]
theorem full_succ {n : Nat} {l : List En} {k : Nat} {e : En} (h : l[k]? = some e) : fullC n l (k + 1) = (fullC n l k).set e.who (cntL l e.who k + 1) := by
  refine List.ext_getElem? fun p => ?_
  rcases Nat.lt_or_ge p n with h1 | h1
  · rw [full_get h1, cnt_succ h]
    by_cases q : e.who = p
    · subst q
      rw [List.getElem?_set_self (by rw [full_len]; exact h1), if_pos rfl]
    · rw [List.getElem?_set_ne q, full_get h1, if_neg q]; rfl
  · rw [List.getElem?_eq_none (by rw [full_len]; exact h1), List.getElem?_eq_none (by rw [List.length_set, full_len]; exact h1)]
theorem cut_full (n : Nat) (l : List En) : Cut n l (fullC n l l.length) := ⟨full_len .., fun p k hk => by
  have h := (List.getElem?_eq_some_iff.1 hk).1
  rw [full_len] at h
  rw [full_get h] at hk; cases hk; exact Nat.le_refl _⟩
theorem whole_full {n : Nat} {l : List En} (hok : OkC n l) : Whole l (fullC n l l.length) := fun i e he hk _ => by
  obtain ⟨_, _, h3⟩ := hok.all i e he
  obtain ⟨_, _, s, hs⟩ := h3 hk
  exact ⟨s, hs, by rw [getD_of (full_get (hok.all _ _ hs).2.1)]; exact cnt_lt hs⟩
theorem eq_of_le {n : Nat} {l : List En} {a b : List Nat} (ha : Cut n l a) (hb : Cut n l b) (h1 : LeC a b) (h2 : LeC b a) : a = b := by
  refine List.ext_getElem? fun p => ?_
  rcases Nat.lt_or_ge p n with h | h
  · obtain ⟨x, hx⟩ := get_of_lt (xs := a) (k := p) (by rw [ha.len]; exact h)
    obtain ⟨y, hy⟩ := get_of_lt (xs := b) (k := p) (by rw [hb.len]; exact h)
    have e1 := h1 p
    have e2 := h2 p
    rw [getD_of hx, getD_of hy] at e1 e2
    rw [hx, hy, Nat.le_antisymm e1 e2]
  · rw [List.getElem?_eq_none (by rw [ha.len]; exact h), List.getElem?_eq_none (by rw [hb.len]; exact h)]
theorem JG.same {n : Nat} {l : List En} {c d : List Nat} (h : JG n l c d) (hc : Cut n l c) (hw : Whole l c) : d = c :=
  eq_of_le h.cut hc (h.least c hw fun _ => Nat.le_refl _) h.le
theorem JS.same {n : Nat} {l : List En} {c d : List Nat} (h : JS n l c d) (hc : Cut n l c) (hw : Whole l c) : d = c :=
  eq_of_le h.cut hc h.le (h.most c hw fun _ => Nat.le_refl _)
theorem first_of {P : Nat → Prop} : ∀ {k : Nat}, (∃ i, i < k ∧ P i) → ∃ i, P i ∧ ∀ j, j < i → ¬ P j := by
  intro k h
  obtain ⟨i, _, hi⟩ := h
  induction i using Nat.strongRecOn with
  | ind i ih =>
    by_cases q : ∃ j, j < i ∧ P j
    · obtain ⟨j, hj, hp⟩ := q
      exact ih j hj (by omega) hp
    · exact ⟨i, hi, fun j hj hp => q ⟨j, hj, hp⟩⟩
theorem nth_of {l : List En} {p q : Nat} (h : q < cntL l p l.length) : ∃ i e, l[i]? = some e ∧ e.who = p ∧ cntL l p i = q := by
  obtain ⟨i, hi⟩ := get_of_lt (xs := ofL l p l.length) (k := q) (by rw [of_len (Nat.le_refl _)]; exact h)
  obtain ⟨_, ⟨e, he, hw⟩, hc⟩ := of_inv (Nat.le_refl _) hi
  exact ⟨i, e, he, hw, hc⟩
theorem step_cut {n : Nat} {l : List En} {lo hi : List Nat} (hok : OkC n l) (hl : Whole l lo) (hh : Whole l hi) (hle : LeC lo hi) (hcl : Cut n l lo) (hch : Cut n l hi) (hne : lo ≠ hi) :
    ∃ p, p < n ∧ lo.getD p 0 < hi.getD p 0 ∧ Whole l (lo.set p (lo.getD p 0 + 1)) := by
  obtain ⟨p0, hp0⟩ : ∃ p, lo.getD p 0 < hi.getD p 0 := by
    refine Classical.byContradiction fun q => hne (eq_of_le hcl hch hle fun p => ?_)
    exact Nat.le_of_not_lt fun h => q ⟨p, h⟩
  obtain ⟨i0, e0, he0, hw0, hc0⟩ := nth_of (l := l) (p := p0) (q := lo.getD p0 0) (by have := hch.at_ p0; omega)
  subst hw0
  obtain ⟨i, ⟨⟨e, he, h1⟩, h2⟩, hmin⟩ := first_of (P := fun i => inC l hi i ∧ ¬ inC l lo i) ⟨i0, Nat.lt_succ_self _, ⟨e0, he0, by omega⟩, fun ⟨e', he', h⟩ => by cases he0.symm.trans he'; omega⟩
  have hpn := (hok.all i e he).2.1
  have h3 : lo.getD e.who 0 ≤ cntL l e.who i := Nat.le_of_not_lt fun h => h2 ⟨e, he, h⟩
  have h4 : cntL l e.who i = lo.getD e.who 0 := by
    refine Classical.byContradiction fun q => ?_
    obtain ⟨j, e', he', hw', hc'⟩ := nth_of (l := l) (p := e.who) (q := lo.getD e.who 0) (by have := hch.at_ e.who; omega)
    have hji : j < i := Nat.lt_of_not_le fun h => by have := cnt_mono (l := l) (p := e.who) h; omega
    refine hmin j hji ⟨⟨e', he', by rw [hw', hc']; omega⟩, fun ⟨e2, he2, h⟩ => ?_⟩
    cases he'.symm.trans he2
    rw [hw', hc'] at h; omega
  have hlt : e.who < lo.length := by rw [hcl.len]; exact hpn
  refine ⟨e.who, hpn, by omega, fun j e' he' hk' hin => ?_⟩
  have hup : LeC lo (lo.set e.who (lo.getD e.who 0 + 1)) := fun q => by
    by_cases c : e.who = q
    · subst c; rw [getD_at _ hlt]; omega
    · rw [getD_other _ c]; exact Nat.le_refl _
  by_cases q : inC l lo j
  · exact inC_le hup (hl j e' he' hk' q)
  · obtain ⟨e2, he2, h5⟩ := hin
    cases he'.symm.trans he2
    have hge : lo.getD e'.who 0 ≤ cntL l e'.who j := Nat.le_of_not_lt fun h => q ⟨e', he', h⟩
    have hw' : e.who = e'.who := by
      refine Classical.byContradiction fun c => ?_
      rw [getD_other _ c] at h5; omega
    rw [← hw'] at h5 hge
    rw [getD_at _ hlt] at h5
    have hij : j = i := by
      have g1 := of_get (Nat.le_refl _) (List.getElem?_eq_some_iff.1 he').1 he' hw'.symm
      have g2 := of_get (Nat.le_refl _) (List.getElem?_eq_some_iff.1 he).1 he rfl
      rw [show cntL l e.who j = cntL l e.who i by omega] at g1
      exact Option.some.inj (g1.symm.trans g2)
    subst hij
    cases he.symm.trans he'
    obtain ⟨s, hs, h6⟩ := hh j e he hk' ⟨e, he, h1⟩
    obtain ⟨_, h7, _⟩ := (hok.all j e he).2.2 hk'
    refine inC_le hup (Classical.byContradiction fun c => hmin _ h7 ⟨⟨s, hs, h6⟩, c⟩)
theorem cut_step {n : Nat} {l : List En} {lo hi : List Nat} {p : Nat} (hcl : Cut n l lo) (hch : Cut n l hi) (h : lo.getD p 0 < hi.getD p 0) : Cut n l (lo.set p (lo.getD p 0 + 1)) := by
  refine hcl.set p ?_
  have := hch.at_ p; omega
theorem GoodC.iff {n : Nat} {l : List En} {c : List Int} (hE : OkE (n : Int) (l.map En.raw)) (hok : OkC n l) : GoodC n (l.map En.raw) c ↔ CutZ n l c := by
  constructor
  · rintro ⟨m, l2, d, h1, h2, _, _, rfl, h3⟩
    obtain rfl : m = n := by omega
    have : l2 = l := by
      refine List.ext_getElem? fun j => ?_
      have := congrArg (fun x => x[j]?) h2
      simp only [List.getElem?_map] at this
      cases e1 : l[j]? with
      | none => rw [e1] at this; cases e2 : l2[j]? with
        | none => rfl
        | some y => rw [e2] at this; cases this
      | some x => rw [e1] at this; cases e2 : l2[j]? with
        | none => rw [e2] at this; cases this
        | some y =>
          rw [e2] at this
          obtain ⟨a, b, c⟩ := x; obtain ⟨a', b', c'⟩ := y
          simp [En.raw] at this
          obtain ⟨rfl, hb, rfl⟩ := this
          obtain rfl : b' = b := by omega
          rfl
    subst this
    exact cutZ_of h3
  · intro h
    obtain ⟨d, rfl, hd⟩ := cut_of h
    exact ⟨n, l, d, rfl, rfl, hE, hok, rfl, hd⟩
theorem events_ok {W : World} {hv : Value} {n : Int} {r : List Ev} (hok : OkE n r) (hs : SlS FE 3 W hv r) : Calls Try.prog 8 #[.int .i64 n, hv] W fun e w' => e = .returned (.bool true) ∧ Below W.heap.size W w' :=
  (events_any n hs).mono fun e w' ⟨⟨c, he, hc⟩, hb⟩ => ⟨by rw [he, hc.2 hok], hb⟩
theorem events_no {W : World} {hv : Value} {n : Int} {r : List Ev} (hok : ¬ OkE n r) (hs : SlS FE 3 W hv r) : Calls Try.prog 8 #[.int .i64 n, hv] W fun e w' => e = .returned (.bool false) ∧ Below W.heap.size W w' :=
  (events_any n hs).mono fun e w' ⟨⟨c, he, hc⟩, hb⟩ => ⟨by cases c with | false => exact he | true => exact absurd (hc.1 rfl) hok, hb⟩
theorem whole_some {W : World} {n : Int} {r : List Ev} {c : List Int} {hv cv : Value} (hs : SlS FE 3 W hv r) (hc : SlS FZ 1 W cv c) :
    Calls Try.prog 10 #[.int .i64 n, hv, cv] W fun e w' => ∃ v, e = .returned v ∧ (∃ (b : Bool) (z : Int), v = .tuple #[.bool b, .int .i64 z] ∧ (z = 0 → GoodC n r c)) ∧ Below W.heap.size W w' := by
  by_cases h : GoodC n r c
  · obtain ⟨m, l, d, rfl, rfl, h1, h2, rfl, h4⟩ := id h
    exact (whole_any h1 h2 h4 (sls_raw.1 hs) (sls_nat.2 hc)).mono fun e w' ⟨v, he, ⟨b, hv, _⟩, hb⟩ => ⟨v, he, ⟨b, 0, hv, fun _ => h⟩, hb⟩
  · exact (whole_bad h hs hc).mono fun e w' ⟨v, he, ⟨z, hv, hz⟩, hb⟩ => ⟨v, he, ⟨false, z, hv, fun e => absurd e hz⟩, hb⟩
end Go.Proofs.Ytffnjojdjbdfcaa
