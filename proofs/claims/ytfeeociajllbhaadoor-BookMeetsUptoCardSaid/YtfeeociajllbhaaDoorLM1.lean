/- Once; what is earlier stays; how many; how much. In plain words. No condition. -/
import Derived.Test.YtfeeociajllbhaaDoorLA3
namespace Go.Proofs.YtfeeociajllbhaaDoor.Lg
open Go.RowKit
set_option linter.unusedVariables false
set_option linter.unusedSimpArgs false
set_option maxRecDepth 100000

theorem codes_at {pays : List Py} {l : List Acc} {q : Nat} {p : Py} (h : pays[q]? = some p) : (codesL l pays)[q]? = some (payC (accsL l (pays.take q)) p) := by
  have hq := (List.getElem?_eq_some_iff.1 h).1
  conv => lhs; arg 1; rw [← List.take_append_drop q pays, codesL_app]
  have hl : (codesL l (pays.take q)).length = q := by rw [codesL_len, List.length_take]; omega
  rw [List.getElem?_append_right (by omega), hl, Nat.sub_self]
  have : pays.drop q = p :: pays.drop (q + 1) := by
    rw [List.drop_eq_getElem_cons hq]
    congr 1
    rw [List.getElem?_eq_getElem hq] at h
    exact Option.some.inj h
  rw [this]; rfl
theorem codes_take (l : List Acc) (pays : List Py) (k : Nat) : codesL l (pays.take k) = (codesL l pays).take k := by
  by_cases hk : k ≤ pays.length
  · have e : codesL l pays = codesL l (pays.take k) ++ codesL (accsL l (pays.take k)) (pays.drop k) := by rw [← codesL_app, List.take_append_drop]
    rw [e, List.take_left' (by rw [codesL_len, List.length_take]; omega)]
  · rw [List.take_of_length_le (by omega), List.take_of_length_le (by rw [codesL_len]; omega)]
/-- what a pay leaves, at each place -/
theorem pay_at {l : List Acc} {p : Py} {j : Nat} {b : Acc} (hb : l[j]? = some b) : ∃ a, (payL l p)[j]? = some a ∧
    a.ser = b.ser + (if payC l p = 0 ∧ j = p.frm.toNat then 1 else 0) ∧ a.n = b.n + (if payC l p = 0 ∧ j = p.to.toNat then p.n else 0) - (if payC l p = 0 ∧ j = p.frm.toNat then p.n else 0) := by
  unfold payL
  by_cases h : payC l p = 0
  · rw [if_pos h]
    obtain ⟨a, ha⟩ := get_of_lt (xs := madeL l p) (k := j) (by rw [made_len]; exact (List.getElem?_eq_some_iff.1 hb).1)
    obtain ⟨b', hb', e1, e2⟩ := made_get h ha
    cases hb.symm.trans hb'
    exact ⟨a, ha, by rw [e1]; simp [h], by rw [e2]; simp [h]⟩
  · rw [if_neg h]
    exact ⟨b, hb, by simp [h], by simp [h]⟩
/-- how many pays of one were made -/
def madeN : List Acc → List Py → Nat → Nat
  | _, [], _ => 0
  | l, p :: ps, j => (if payC l p = 0 ∧ j = p.frm.toNat then 1 else 0) + madeN (payL l p) ps j
theorem madeN_app : ∀ (ps qs : List Py) (l : List Acc) (j : Nat), madeN l (ps ++ qs) j = madeN l ps j + madeN (accsL l ps) qs j
  | [], _, _, _ => by simp [madeN, accsL]
  | p :: ps, qs, l, j => by simp only [List.cons_append, madeN, accsL]; rw [madeN_app ps qs (payL l p) j]; omega
theorem madeN_snoc {pays : List Py} {q : Nat} {p : Py} {l : List Acc} {j : Nat} (h : pays[q]? = some p) : madeN l (pays.take (q + 1)) j = madeN l (pays.take q) j + (if payC (accsL l (pays.take q)) p = 0 ∧ j = p.frm.toNat then 1 else 0) := by rw [take_of h, madeN_app]; rfl
theorem madeN_le : ∀ (ps : List Py) (l : List Acc) (j : Nat), madeN l ps j ≤ ps.length
  | [], _, _ => Nat.le_refl _
  | p :: ps, l, j => by
    have := madeN_le ps (payL l p) j
    simp only [madeN, List.length_cons]; split <;> omega
theorem run_at : ∀ (ps : List Py) {l : List Acc} {j : Nat} {b : Acc}, l[j]? = some b → ∃ a, (accsL l ps)[j]? = some a ∧ a.ser = b.ser + madeN l ps j
  | [], l, j, b, hb => ⟨b, hb, rfl⟩
  | p :: ps, l, j, b, hb => by
    obtain ⟨a, ha, e1, _⟩ := pay_at (p := p) hb
    obtain ⟨a', ha', e2⟩ := run_at ps ha
    exact ⟨a', ha', by simp only [madeN]; omega⟩
/-- ONCE -/
theorem once {money : List Int} {pays : List Py} {i j : Nat} {p q : Py} (hj : j < i) (hp : pays[i]? = some p) (hq : pays[j]? = some q) (hci : (codesL (start0 money) pays)[i]? = some 0) (hcj : (codesL (start0 money) pays)[j]? = some 0) (hf : p.frm = q.frm) (hs : p.ser = q.ser) : False := by
  rw [codes_at hp] at hci
  rw [codes_at hq] at hcj
  have ci := Option.some.inj hci
  have cj := Option.some.inj hcj
  have hil := (List.getElem?_eq_some_iff.1 hp).1
  obtain ⟨a1, _, _, a4, _⟩ := pay_ok ci
  obtain ⟨b1, _, _, b4, _⟩ := pay_ok cj
  have e := accI_mem b1
  obtain ⟨x, hx, hx1, _⟩ := pay_at (p := q) e
  rw [if_pos ⟨cj, rfl⟩] at hx1
  have hsp : accsL (start0 money) (pays.take i) = accsL (payL (accsL (start0 money) (pays.take j)) q) ((pays.take i).drop (j + 1)) := by
    have : pays.take i = pays.take (j + 1) ++ (pays.take i).drop (j + 1) := by
      conv => lhs; rw [← List.take_append_drop (j + 1) (pays.take i)]
      rw [List.take_take, Nat.min_eq_left (by omega)]
    conv => lhs; rw [this, accsL_app, take_of hq, accsL_app]
    rfl
  obtain ⟨y, hy, hy1⟩ := run_at ((pays.take i).drop (j + 1)) hx
  rw [← hsp] at hy
  rw [hf] at a4
  rw [accI_of hy] at a4
  omega
/-- FRONT -/
theorem front {money : List Int} {pays : List Py} {k j : Nat} {a b : Acc} (ha : (accsL (start0 money) (pays.take k))[j]? = some a) (hb : (accsL (start0 money) pays)[j]? = some b) : a.ser ≤ b.ser := by
  have h : accsL (start0 money) pays = accsL (accsL (start0 money) (pays.take k)) (pays.drop k) := by rw [← accsL_app, List.take_append_drop]
  obtain ⟨y, hy, hy1⟩ := run_at (pays.drop k) ha
  rw [← h] at hy
  cases hy.symm.trans hb
  omega
/-- how many were made, by account -/
theorem made_at {money : List Int} {pays : List Py} {j : Nat} {a : Acc} (ha : (accsL (start0 money) pays)[j]? = some a) : a.ser = madeN (start0 money) pays j := by
  obtain ⟨b, hb⟩ := get_of_lt (xs := start0 money) (k := j) (by have := (List.getElem?_eq_some_iff.1 ha).1; rwa [accsL_len] at this)
  have h0 : b.ser = 0 := by
    unfold start0 at hb
    rw [List.getElem?_map] at hb
    cases e : money[j]? with
    | none => rw [e] at hb; cases hb
    | some x => rw [e] at hb; cases hb; rfl
  obtain ⟨y, hy, hy1⟩ := run_at pays hb
  cases hy.symm.trans ha
  omega
def sumA (l : List Acc) : Int := (l.map Acc.n).sum
theorem sumA_set : ∀ {l : List Acc} {i : Nat} {a x : Acc}, l[i]? = some a → sumA (l.set i x) = sumA l - a.n + x.n
  | [], i, a, x, h => by cases h
  | b :: l, 0, a, x, h => by simp at h; subst h; simp [sumA]; omega
  | b :: l, i + 1, a, x, h => by
    have := sumA_set (l := l) (i := i) (x := x) (by simpa using h)
    simp [sumA] at this ⊢; omega
theorem sumA_pay (l : List Acc) (p : Py) : sumA (payL l p) = sumA l := by
  unfold payL
  split
  · rename_i h
    obtain ⟨h1, h2, _⟩ := pay_ok h
    have e1 := accI_mem h1
    unfold madeL
    dsimp only
    have e2 : (l.set p.frm.toNat ⟨(accI l p.frm).n - p.n, (accI l p.frm).ser⟩)[p.to.toNat]? = some (accI (l.set p.frm.toNat ⟨(accI l p.frm).n - p.n, (accI l p.frm).ser⟩) p.to) := accI_mem (by unfold inA at *; rw [List.length_set]; exact h2)
    generalize accI (l.set p.frm.toNat ⟨(accI l p.frm).n - p.n, (accI l p.frm).ser⟩) p.to = y at *
    have e3 : ((l.set p.frm.toNat ⟨(accI l p.frm).n - p.n, (accI l p.frm).ser⟩).set p.to.toNat ⟨y.n + p.n, y.ser⟩)[p.frm.toNat]? = some (accI ((l.set p.frm.toNat ⟨(accI l p.frm).n - p.n, (accI l p.frm).ser⟩).set p.to.toNat ⟨y.n + p.n, y.ser⟩) p.frm) := accI_mem (by unfold inA at *; rw [List.length_set, List.length_set]; exact h1)
    rw [sumA_set e3, sumA_set e2, sumA_set e1]
    dsimp only; omega
  · rfl
theorem sumA_run : ∀ (ps : List Py) (l : List Acc), sumA (accsL l ps) = sumA l
  | [], _ => rfl
  | p :: ps, l => by simp only [accsL]; rw [sumA_run ps, sumA_pay]
theorem sumA_start (money : List Int) : sumA (start0 money) = money.sum := by
  unfold sumA start0
  rw [List.map_map]
  congr 1
  conv => rhs; rw [← List.map_id money]
  rfl
end Go.Proofs.YtfeeociajllbhaaDoor.Lg
