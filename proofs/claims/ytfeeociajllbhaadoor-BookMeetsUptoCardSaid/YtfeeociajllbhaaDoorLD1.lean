/- Accounts and pays, in plain words; errors.As. No condition. -/
import Derived.Test.YtfeeociajllbhaaDoorT
import Derived.Test.YtfeeociajllbhaaDoorW2
import Derived.Test.YtfeeociajllbhaaDoorLZ
namespace Go.Proofs.YtfeeociajllbhaaDoor.Lg
open Go.RowKit
set_option linter.unusedVariables false
set_option linter.unusedSimpArgs false
set_option maxRecDepth 100000

structure Acc where
  n : Int
  ser : Nat
structure Py where
  (frm to ser n : Int)
abbrev FA (e : Acc) : List Value := [.int .i64 e.n, .int .i64 ((e.ser : Nat) : Int)]
abbrev FP (e : Py) : List Value := [.int .i64 e.frm, .int .i64 e.to, .int .i64 e.ser, .int .i64 e.n]
abbrev FM (e : Int) : List Value := [.int .i64 e]
abbrev FZ (e : Int) : List Value := [.int .i64 e]
theorem FA_len (c : Acc) : (FA c).length = 2 := rfl
theorem FP_len (c : Py) : (FP c).length = 4 := rfl
theorem FM_len (c : Int) : (FM c).length = 1 := rfl
theorem FZ_len (c : Int) : (FZ c).length = 1 := rfl
theorem FA_one (p : Acc) (u : Value) (h : u ∈ FA p) : u.oneCell' = true := by simp [FA] at h; rcases h with rfl | rfl <;> rfl
theorem FP_one (p : Py) (u : Value) (h : u ∈ FP p) : u.oneCell' = true := by simp [FP] at h; rcases h with rfl | rfl | rfl | rfl <;> rfl
theorem FM_one (p : Int) (u : Value) (h : u ∈ FM p) : u.oneCell' = true := by simp [FM] at h; subst h; rfl
theorem FZ_one (p : Int) (u : Value) (h : u ∈ FZ p) : u.oneCell' = true := by simp [FZ] at h; subst h; rfl
theorem Tryd.eA : Elem Tryd.prog 35 43 (.agg #[.int .i64 0, .int .i64 0]) 2 16 := ⟨Tryd.underlying35, by kernel_rfl, rfl, by decide⟩
theorem Tryd.eZ : Elem Tryd.prog 26 31 (.int .i64 0) 1 8 := ⟨Tryd.underlying26, by kernel_rfl, rfl, by decide⟩
theorem Tryd.eP : Elem Tryd.prog 34 82 (.agg #[.int .i64 0, .int .i64 0, .int .i64 0, .int .i64 0]) 4 32 := ⟨Tryd.underlying34, by kernel_rfl, rfl, by decide⟩
def acc0 : Acc := ⟨0, 0⟩
def inA (l : List Acc) (i : Int) : Prop := 0 ≤ i ∧ i < (l.length : Int)
instance (l : List Acc) (i : Int) : Decidable (inA l i) := inferInstanceAs (Decidable (_ ∧ _))
def accI (l : List Acc) (i : Int) : Acc := l.getD i.toNat acc0
/-- why a pay is not made -/
def payC (l : List Acc) (p : Py) : Int :=
  if ¬ inA l p.frm ∨ ¬ inA l p.to ∨ p.n < 1 then 2
  else if p.ser ≠ ((accI l p.frm).ser : Int) then 3
  else if (accI l p.frm).n < p.n then 5
  else if p.frm.toNat ≠ p.to.toNat ∧ 1099511627776 - p.n < (accI l p.to).n then 7
  else 0
/-- a pay that is made -/
def madeL (l : List Acc) (p : Py) : List Acc :=
  let l1 := l.set p.frm.toNat ⟨(accI l p.frm).n - p.n, (accI l p.frm).ser⟩
  let l2 := l1.set p.to.toNat ⟨(accI l1 p.to).n + p.n, (accI l1 p.to).ser⟩
  l2.set p.frm.toNat ⟨(accI l2 p.frm).n, (accI l2 p.frm).ser + 1⟩
def payL (l : List Acc) (p : Py) : List Acc := if payC l p = 0 then madeL l p else l
theorem accI_of {l : List Acc} {i : Int} {a : Acc} (h : l[i.toNat]? = some a) : accI l i = a := by unfold accI; rw [List.getD_eq_getElem?_getD, h]; rfl
theorem made_len (l : List Acc) (p : Py) : (madeL l p).length = l.length := by simp [madeL]
theorem payL_len (l : List Acc) (p : Py) : (payL l p).length = l.length := by unfold payL; split; exact made_len l p; rfl
def accsL : List Acc → List Py → List Acc
  | l, [] => l
  | l, p :: ps => accsL (payL l p) ps
def codesL : List Acc → List Py → List Int
  | _, [] => []
  | l, p :: ps => payC l p :: codesL (payL l p) ps
def start0 (money : List Int) : List Acc := money.map fun n => ⟨n, 0⟩
theorem accsL_app : ∀ (ps qs : List Py) (l : List Acc), accsL l (ps ++ qs) = accsL (accsL l ps) qs
  | [], _, _ => rfl
  | p :: ps, qs, l => accsL_app ps qs (payL l p)
theorem codesL_app : ∀ (ps qs : List Py) (l : List Acc), codesL l (ps ++ qs) = codesL l ps ++ codesL (accsL l ps) qs
  | [], _, _ => rfl
  | p :: ps, qs, l => by simp only [List.cons_append, codesL, accsL]; rw [codesL_app ps qs (payL l p)]
theorem codesL_len : ∀ (ps : List Py) (l : List Acc), (codesL l ps).length = ps.length
  | [], _ => rfl
  | p :: ps, l => by simp [codesL, codesL_len ps]
theorem accsL_len : ∀ (ps : List Py) (l : List Acc), (accsL l ps).length = l.length
  | [], _ => rfl
  | p :: ps, l => by simp only [accsL]; rw [accsL_len ps, payL_len]
/-- amounts stay within bounds -/
def BdA (m : Nat) (l : List Acc) : Prop := ∀ (i : Nat) (a : Acc), l[i]? = some a → 0 ≤ a.n ∧ a.n ≤ 1099511627776 ∧ a.ser ≤ m
theorem BdA.mono {m m' : Nat} {l : List Acc} (h : m ≤ m') (H : BdA m l) : BdA m' l := fun i a ha => by have := H i a ha; omega
theorem set_get {l : List Acc} {i j : Nat} {x y : Acc} (h : (l.set i x)[j]? = some y) : (i = j ∧ y = x) ∨ (i ≠ j ∧ l[j]? = some y) := by
  by_cases e : i = j
  · subst e
    rw [List.getElem?_set_self (by have := (List.getElem?_eq_some_iff.1 h).1; rwa [List.length_set] at this)] at h
    cases h; exact .inl ⟨rfl, rfl⟩
  · rw [List.getElem?_set_ne e] at h; exact .inr ⟨e, h⟩
theorem accI_mem {l : List Acc} {i : Int} (h : inA l i) : l[i.toNat]? = some (accI l i) := by
  obtain ⟨a, ha⟩ := get_of_lt (xs := l) (k := i.toNat) (by unfold inA at h; omega)
  rw [ha, accI_of ha]
theorem pay_ok {l : List Acc} {p : Py} (h : payC l p = 0) : inA l p.frm ∧ inA l p.to ∧ 1 ≤ p.n ∧ p.ser = ((accI l p.frm).ser : Int) ∧ p.n ≤ (accI l p.frm).n ∧ (p.frm.toNat = p.to.toNat ∨ (accI l p.to).n ≤ 1099511627776 - p.n) := by
  unfold payC at h
  split at h
  · cases h
  · split at h
    · cases h
    · split at h
      · cases h
      · split at h
        · cases h
        · rename_i h1 h2 h3 h4
          by_cases a1 : inA l p.frm
          · by_cases a2 : inA l p.to
            · exact ⟨a1, a2, by omega, by omega, by omega, by omega⟩
            · exact absurd (.inr (.inl a2)) h1
          · exact absurd (.inl a1) h1
/-- what a made pay leaves, at each place -/
theorem made_get {l : List Acc} {p : Py} (h : payC l p = 0) {j : Nat} {a : Acc} (ha : (madeL l p)[j]? = some a) : ∃ b, l[j]? = some b ∧
    a.ser = b.ser + (if j = p.frm.toNat then 1 else 0) ∧ a.n = b.n + (if j = p.to.toNat then p.n else 0) - (if j = p.frm.toNat then p.n else 0) := by
  obtain ⟨h1, h2, _⟩ := pay_ok h
  have e1 := accI_mem h1
  have e2 := accI_mem h2
  have f1 := (List.getElem?_eq_some_iff.1 e1).1
  have f2 := (List.getElem?_eq_some_iff.1 e2).1
  generalize hx : accI l p.frm = x at e1
  generalize hy : accI l p.to = y at e2
  unfold madeL at ha
  simp only [hx] at ha
  by_cases q : p.frm.toNat = p.to.toNat
  · rw [← q] at e2
    cases e1.symm.trans e2
    have g1 : accI (l.set p.frm.toNat ⟨x.n - p.n, x.ser⟩) p.to = ⟨x.n - p.n, x.ser⟩ := accI_of (by rw [← q, List.getElem?_set_self f1])
    rw [g1, ← q] at ha
    have g2 : accI ((l.set p.frm.toNat ⟨x.n - p.n, x.ser⟩).set p.frm.toNat ⟨x.n - p.n + p.n, x.ser⟩) p.frm = ⟨x.n - p.n + p.n, x.ser⟩ := accI_of (by rw [List.getElem?_set_self (by rw [List.length_set]; exact f1)])
    rw [g2] at ha
    rcases set_get ha with ⟨rfl, rfl⟩ | ⟨z1, ha⟩
    · refine ⟨x, e1, ?_, ?_⟩ <;> simp [q] <;> omega
    · rcases set_get ha with ⟨z, _⟩ | ⟨_, ha⟩
      · exact absurd z z1
      · rcases set_get ha with ⟨z, _⟩ | ⟨_, ha⟩
        · exact absurd z z1
        · refine ⟨a, ha, ?_, ?_⟩
          · rw [if_neg (fun e => z1 e.symm)]; rfl
          · rw [if_neg (fun e => z1 (q.trans e.symm)), if_neg (fun e => z1 e.symm)]; omega
  · have g1 : accI (l.set p.frm.toNat ⟨x.n - p.n, x.ser⟩) p.to = y := accI_of (by rw [List.getElem?_set_ne q, e2])
    rw [g1] at ha
    have g2 : accI ((l.set p.frm.toNat ⟨x.n - p.n, x.ser⟩).set p.to.toNat ⟨y.n + p.n, y.ser⟩) p.frm = ⟨x.n - p.n, x.ser⟩ := accI_of (by rw [List.getElem?_set_ne (fun e => q e.symm), List.getElem?_set_self f1])
    rw [g2] at ha
    rcases set_get ha with ⟨rfl, rfl⟩ | ⟨z1, ha⟩
    · refine ⟨x, e1, ?_, ?_⟩
      · rw [if_pos rfl]
      · rw [if_neg q, if_pos rfl]; show x.n - p.n = _; omega
    · rcases set_get ha with ⟨rfl, rfl⟩ | ⟨z2, ha⟩
      · refine ⟨y, e2, ?_, ?_⟩
        · rw [if_neg (fun e => z1 e.symm)]; rfl
        · rw [if_pos rfl, if_neg (fun e => z1 e.symm)]; show y.n + p.n = _; omega
      · rcases set_get ha with ⟨z, _⟩ | ⟨_, ha⟩
        · exact absurd z z1
        · refine ⟨a, ha, ?_, ?_⟩
          · rw [if_neg (fun e => z1 e.symm)]; rfl
          · rw [if_neg (fun e => z2 e.symm), if_neg (fun e => z1 e.symm)]; omega
theorem BdA.pay {m : Nat} {l : List Acc} {p : Py} (H : BdA m l) : BdA (m + 1) (payL l p) := by
  unfold payL
  split
  · rename_i h
    intro j a ha
    obtain ⟨h1, h2, h3, _, h5, h6⟩ := pay_ok h
    obtain ⟨b, hb, e1, e2⟩ := made_get h ha
    have hB := H j b hb
    have k1 := accI_mem h1
    have k2 := accI_mem h2
    by_cases q1 : j = p.frm.toNat
    · rw [q1] at hb
      cases k1.symm.trans hb
      rw [if_pos q1] at e1 e2
      split at e2 <;> omega
    · rw [if_neg q1] at e1 e2
      by_cases q2 : j = p.to.toNat
      · rw [q2] at hb
        cases k2.symm.trans hb
        rw [if_pos q2] at e2
        omega
      · rw [if_neg q2] at e2; omega
  · exact H.mono (by omega)
theorem BdA.run : ∀ (ps : List Py) {m : Nat} {l : List Acc}, BdA m l → BdA (m + ps.length) (accsL l ps)
  | [], _, _, H => H
  | p :: ps, m, l, H => by
    have := BdA.run ps (H.pay (p := p))
    rw [List.length_cons, show m + (ps.length + 1) = m + 1 + ps.length by omega]; exact this
/-- a variable of package errors: what the row's list says of it -/
def HG (w : World) : Prop := w.cell? ⟨0, 0, none⟩ = some (.iface 117 (.agg #[.pointer (some ⟨1, 85, none⟩)]))
theorem HG.lt {w : World} (h : HG w) : 0 < w.heap.size := by
  rcases Nat.eq_zero_or_pos w.heap.size with h0 | h0
  · unfold HG at h; simp [World.cell?, h0] at h
  · exact h0
theorem HG.below {w w' : World} (h : HG w) (hb : Below w.heap.size w w') : HG w' := (hb.cell (p := ⟨0, 0, none⟩) h.lt).trans h
abbrev errV (c : Int) : Value := if c = 0 then .nilIface else .iface 98 (.agg #[.int .i64 c])
set_option maxHeartbeats 4000000 in
theorem code_nil (w : World) : Calls Tryd.prog 28 #[.nilIface] w fun e w' => e = .returned (.int .i64 0) ∧ Below w.heap.size w w' := by
  go_enter Tryd.func28, Tryd.ntmps28
  go_wp2_with (first | (go_at_call 36; refine (as_nil _ _).mono ?_; rintro e w' ⟨rfl, rfl⟩))
  go_ret
  exact ⟨rfl, below_alloc _ _⟩
set_option maxHeartbeats 4000000 in
theorem code_err (c : Int) (w : World) (hg : HG w) : Calls Tryd.prog 28 #[.iface 98 (.agg #[.int .i64 c])] w fun e w' => e = .returned (.int .i64 c) ∧ Below w.heap.size w w' := by
  have hgA : (w.alloc (.cells #[.int .i64 0] 98)).cell? ⟨0, 0, none⟩ = some (.iface 117 (.agg #[.pointer (some ⟨1, 85, none⟩)])) := hg.below (below_alloc _ _)
  have htA : (w.alloc (.cells #[.int .i64 0] 98)).cell? ⟨w.heap.size, 0, none⟩ = some (.int .i64 0) := by simp
  have hfA : (w.alloc (.cells #[.int .i64 0] 98)).frozen? ⟨w.heap.size, 0, none⟩ = false := by simp
  go_enter Tryd.func28, Tryd.ntmps28
  go_wp2_with (first | (go_at_call 36; refine (as_hit _ _ (.int .i64 0) _ hgA htA hfA).mono ?_; rintro e w' ⟨rfl, rfl⟩))
  go_ret
  refine ⟨rfl, ?_⟩
  refine ((((below_alloc w _).alloc ?_ _).alloc ?_ _).alloc ?_ _).alloc ?_ _ <;> simp <;> omega
theorem code_any (c : Int) (w : World) (hg : HG w) : Calls Tryd.prog 28 #[errV c] w fun e w' => e = .returned (.int .i64 c) ∧ Below w.heap.size w w' := by
  unfold errV
  split
  · rename_i h; subst h; exact code_nil w
  · exact code_err c w hg
end Go.Proofs.YtfeeociajllbhaaDoor.Lg
