/- Two pays that touch no account in common. In plain words. No condition. -/
import Derived.Test.YtbdlpomcmkojmaaDoorM1
namespace Go.Proofs.YtbdlpomcmkojmaaDoor
open Go.RowKit
set_option linter.unusedVariables false
set_option linter.unusedSimpArgs false
set_option maxRecDepth 100000

theorem inA_len {l l' : List Acc} (h : l'.length = l.length) (i : Int) : inA l' i ↔ inA l i := by unfold inA; rw [h]
/-- a pay touches its own two accounts alone -/
theorem accI_pay {l : List Acc} {p : Py} {i : Int} (h : inA l i) (h1 : i ≠ p.frm) (h2 : i ≠ p.to) : accI (payL l p) i = accI l i := by
  have e := accI_mem h
  obtain ⟨a, ha, e1, e2⟩ := pay_at (p := p) e
  rw [accI_of ha]
  have hne : payC l p = 0 → i.toNat ≠ p.frm.toNat ∧ i.toNat ≠ p.to.toNat := fun h0 => by
    obtain ⟨a1, a2, _⟩ := pay_ok h0
    unfold inA at h a1 a2
    omega
  have n1 : ¬ (payC l p = 0 ∧ i.toNat = p.frm.toNat) := fun q => (hne q.1).1 q.2
  have n2 : ¬ (payC l p = 0 ∧ i.toNat = p.to.toNat) := fun q => (hne q.1).2 q.2
  rw [if_neg n1] at e1 e2
  rw [if_neg n2] at e2
  obtain ⟨an, ax⟩ := a
  generalize accI l i = b at *
  obtain ⟨bn, bx⟩ := b
  simp only at e1 e2
  rw [e1, e2, Int.add_zero, Int.sub_zero, Nat.add_zero]
theorem payC_apart {l : List Acc} {a b : Py} (h1 : b.frm ≠ a.frm) (h2 : b.frm ≠ a.to) (h3 : b.to ≠ a.frm) (h4 : b.to ≠ a.to) : payC (payL l a) b = payC l b := by
  unfold payC
  simp only [inA_len (payL_len l a)]
  by_cases q : ¬ inA l b.frm ∨ ¬ inA l b.to ∨ b.n < 1
  · rw [if_pos q, if_pos q]
  · rw [if_neg q, if_neg q]
    have i1 : inA l b.frm := Classical.byContradiction fun h => q (.inl h)
    have i2 : inA l b.to := Classical.byContradiction fun h => q (.inr (.inl h))
    rw [accI_pay i1 h1 h2, accI_pay i2 h3 h4]
theorem pay_swap {l : List Acc} {a b : Py} (h1 : b.frm ≠ a.frm) (h2 : b.frm ≠ a.to) (h3 : b.to ≠ a.frm) (h4 : b.to ≠ a.to) : payL (payL l a) b = payL (payL l b) a := by
  have c1 := payC_apart (l := l) h1 h2 h3 h4
  have c2 := payC_apart (l := l) (a := b) (b := a) (fun e => h1 e.symm) (fun e => h3 e.symm) (fun e => h2 e.symm) (fun e => h4 e.symm)
  refine List.ext_getElem? fun j => ?_
  by_cases hj : j < l.length
  · obtain ⟨x, hx⟩ := get_of_lt hj
    obtain ⟨y, hy, y1, y2⟩ := pay_at (p := a) hx
    obtain ⟨z, hz, z1, z2⟩ := pay_at (p := b) hy
    obtain ⟨u, hu, u1, u2⟩ := pay_at (p := b) hx
    obtain ⟨v, hv, v1, v2⟩ := pay_at (p := a) hu
    rw [hz, hv]
    rw [c1] at z1 z2
    rw [c2] at v1 v2
    obtain ⟨zn, zx⟩ := z
    obtain ⟨vn, vx⟩ := v
    simp only at z1 z2 v1 v2
    have e1 : zx = vx := by
      rw [z1, v1, y1, u1]
      generalize (if payC l a = 0 ∧ j = a.frm.toNat then 1 else 0 : Nat) = q1
      generalize (if payC l b = 0 ∧ j = b.frm.toNat then 1 else 0 : Nat) = q2
      omega
    have e2 : zn = vn := by
      rw [z2, v2, y2, u2]
      generalize (if payC l a = 0 ∧ j = a.frm.toNat then a.n else 0 : Int) = q1
      generalize (if payC l b = 0 ∧ j = b.frm.toNat then b.n else 0 : Int) = q2
      generalize (if payC l a = 0 ∧ j = a.to.toNat then a.n else 0 : Int) = q3
      generalize (if payC l b = 0 ∧ j = b.to.toNat then b.n else 0 : Int) = q4
      omega
    rw [e1, e2]
  · rw [List.getElem?_eq_none (by rw [payL_len, payL_len]; omega), List.getElem?_eq_none (by rw [payL_len, payL_len]; omega)]
theorem split2 {α : Type} {l : List α} {i : Nat} {a b : α} (h1 : l[i]? = some a) (h2 : l[i + 1]? = some b) : ∃ s t, l = s ++ a :: b :: t ∧ s.length = i := by
  obtain ⟨g1, e1⟩ := List.getElem?_eq_some_iff.1 h1
  obtain ⟨g2, e2⟩ := List.getElem?_eq_some_iff.1 h2
  refine ⟨l.take i, l.drop (i + 2), ?_, by rw [List.length_take]; omega⟩
  conv => lhs; rw [← List.take_append_drop i l, List.drop_eq_getElem_cons g1, List.drop_eq_getElem_cons g2]
  rw [e1, e2]
theorem set2 {α : Type} (s t : List α) (a b : α) : ((s ++ a :: b :: t).set s.length b).set (s.length + 1) a = s ++ b :: a :: t := by
  rw [List.set_append_right _ _ (Nat.le_refl _), Nat.sub_self]
  rw [List.set_append_right _ _ (by omega), show s.length + 1 - s.length = 1 by omega]
  rfl
/-- APART -/
theorem apart {pays : List Py} {l : List Acc} {i : Nat} {a b : Py} (ha : pays[i]? = some a) (hb : pays[i + 1]? = some b) (h1 : a.frm ≠ b.frm) (h2 : a.frm ≠ b.to) (h3 : a.to ≠ b.frm) (h4 : a.to ≠ b.to) :
    accsL l ((pays.set i b).set (i + 1) a) = accsL l pays ∧ (codesL l ((pays.set i b).set (i + 1) a))[i]? = (codesL l pays)[i + 1]? ∧ (codesL l ((pays.set i b).set (i + 1) a))[i + 1]? = (codesL l pays)[i]? := by
  obtain ⟨s, t, rfl, rfl⟩ := split2 ha hb
  rw [set2]
  have hw := pay_swap (l := accsL l s) (a := a) (b := b) (fun e => h1 e.symm) (fun e => h3 e.symm) (fun e => h2 e.symm) (fun e => h4 e.symm)
  have c1 := payC_apart (l := accsL l s) (a := a) (b := b) (fun e => h1 e.symm) (fun e => h3 e.symm) (fun e => h2 e.symm) (fun e => h4 e.symm)
  have c2 := payC_apart (l := accsL l s) (a := b) (b := a) h1 h2 h3 h4
  have hl : (codesL l s).length = s.length := codesL_len s l
  refine ⟨by rw [accsL_app, accsL_app]; simp only [accsL]; rw [hw], ?_, ?_⟩
  · rw [codesL_app, codesL_app, List.getElem?_append_right (by omega), List.getElem?_append_right (by omega), hl, Nat.sub_self, show s.length + 1 - s.length = 1 by omega]
    simp only [codesL]
    rw [List.getElem?_cons_zero, List.getElem?_cons_succ, List.getElem?_cons_zero, c1]
  · rw [codesL_app, codesL_app, List.getElem?_append_right (by omega), List.getElem?_append_right (by omega), hl, Nat.sub_self, show s.length + 1 - s.length = 1 by omega]
    simp only [codesL]
    rw [List.getElem?_cons_zero, List.getElem?_cons_succ, List.getElem?_cons_zero, c2]
end Go.Proofs.YtbdlpomcmkojmaaDoor
