/- Copies together: order, brackets, and twice. In plain words. No condition. -/
import Derived.Test.YtfpkfbffpkjgbaaA20
namespace Go.Proofs.Ytfpkfbffpkjgbaa
open Go.RowKit
set_option linter.unusedVariables false
set_option linter.unusedSimpArgs false
set_option maxRecDepth 100000

theorem mx2_comm (x y : Int) : mx2 x y = mx2 y x := by unfold mx2; split <;> split <;> omega
theorem mx_comm : ∀ {a b : List Int}, mx a b = mx b a
  | [], [] => rfl
  | [], _ :: _ => rfl
  | _ :: _, [] => rfl
  | x :: a, y :: b => by simp only [mx]; rw [mx2_comm, mx_comm (a := a)]
theorem mx_assoc : ∀ {a b c : List Int}, mx (mx a b) c = mx a (mx b c)
  | [], [], [] => rfl
  | [], [], _ :: _ => rfl
  | [], _ :: _, [] => rfl
  | [], _ :: _, _ :: _ => rfl
  | _ :: _, [], [] => rfl
  | _ :: _, [], _ :: _ => rfl
  | _ :: _, _ :: _, [] => rfl
  | x :: a, y :: b, z :: c => by
    simp only [mx]
    rw [mx_assoc (a := a), show mx2 (mx2 x y) z = mx2 x (mx2 y z) by unfold mx2; repeat' split; all_goals omega]
theorem mx_idem : ∀ {a : List Int}, mx a a = a
  | [] => rfl
  | x :: a => by simp only [mx]; rw [mx_idem (a := a), show mx2 x x = x by unfold mx2; split <;> rfl]
theorem mx_abs {a b : List Int} : mx (mx a b) b = mx a b := by rw [mx_assoc, mx_idem]
theorem uni_comm {a b : List Dt} : uni a b = uni b a := up_uniq uni_up uni_up fun d => by rw [uni_mem, uni_mem]; exact Or.comm
theorem uni_assoc {a b c : List Dt} : uni (uni a b) c = uni a (uni b c) := up_uniq uni_up uni_up fun d => by rw [uni_mem, uni_mem, uni_mem, uni_mem]; exact or_assoc
theorem uni_idem {a : List Dt} (h : Up a) : uni a a = a := up_uniq uni_up h fun d => by rw [uni_mem]; exact or_self_iff
theorem uni_abs {a b : List Dt} : uni (uni a b) b = uni a b := up_uniq uni_up uni_up fun d => by
  rw [uni_mem, uni_mem]
  exact ⟨fun h => h.elim id .inr, .inl⟩
def gr (a b : Sp) : Sp := if 0 < spC b a then b else a
theorem mrg_eq (a b : Cp) : mrg a b = ⟨mx a.cn b.cn, gr a.la b.la, uni a.ad b.ad, uni a.go b.go⟩ := rfl
theorem gr_assoc (a b c : Sp) : gr (gr a b) c = gr a (gr b c) := by
  unfold gr
  by_cases h1 : 0 < spC b a <;> by_cases h2 : 0 < spC c b <;> by_cases h3 : 0 < spC c a <;> simp only [h1, h2, h3, if_true, if_false] <;> (rw [sp_pos] at h1 h2 h3; exfalso; omega)
theorem gr_comm {a b : Sp} (h : spC a b = 0 → a = b) : gr a b = gr b a := by
  unfold gr
  by_cases h1 : 0 < spC b a <;> by_cases h2 : 0 < spC a b <;> simp only [h1, h2, if_true, if_false]
  · rw [sp_pos] at h1 h2; exfalso; omega
  · rw [sp_pos] at h1 h2
    exact h (by rw [sp_zero]; omega)
theorem gr_self (a : Sp) : gr a a = a := by unfold gr; split <;> rfl
theorem gr_abs (a b : Sp) : gr (gr a b) b = gr a b := by rw [gr_assoc, gr_self]
theorem gr_or (a b : Sp) : gr a b = a ∨ gr a b = b := by unfold gr; split; exact .inr rfl; exact .inl rfl
theorem mrg_assoc (a b c : Cp) : mrg (mrg a b) c = mrg a (mrg b c) := by
  simp only [mrg_eq, Cp.mk.injEq]
  exact ⟨mx_assoc, gr_assoc _ _ _, uni_assoc, uni_assoc⟩
theorem merge_parts {a b : Cp} (h : (mergeC a b).1 = 0) : mergeC a b = (0, mrg a b) ∧ (spC a.la b.la = 0 → a.la = b.la) ∧ (uni a.ad b.ad).length ≤ 60 ∧ (uni a.go b.go).length ≤ 60 := by
  have h2 := mergeC_zero h
  refine ⟨Prod.ext h h2, ?_⟩
  unfold mergeC at h
  split at h
  · cases h
  · split at h
    · cases h
    · rename_i q1 q2
      refine ⟨fun q => ?_, big_no (by simpa [mrg] using q2)⟩
      exact Classical.byContradiction fun e => q1 ⟨q, e⟩
theorem merge_comm (a b : Cp) : mergeC a b = mergeC b a := by
  have hs : spC a.la b.la = 0 ↔ spC b.la a.la = 0 := by rw [sp_zero, sp_zero]; omega
  by_cases h : spC a.la b.la = 0 ∧ a.la ≠ b.la
  · rw [mergeC_form h.1 h.2, mergeC_form (hs.1 h.1) (fun e => h.2 e.symm)]
  · have h' : ¬ (spC b.la a.la = 0 ∧ b.la ≠ a.la) := fun q => h ⟨hs.2 q.1, fun e => q.2 e.symm⟩
    have e : mrg a b = mrg b a := by
      simp only [mrg_eq, Cp.mk.injEq]
      exact ⟨mx_comm, gr_comm fun q => Classical.byContradiction fun e => h ⟨q, e⟩, uni_comm, uni_comm⟩
    unfold mergeC
    rw [if_neg h, if_neg h', e]
theorem merge_idem {n : Int} {a : Cp} (h : GoodC n a) : mergeC a a = (0, a) := by
  have f := h.facts
  have e : mrg a a = a := by
    rw [mrg_eq, mx_idem, gr_self, uni_idem f.au, uni_idem f.gu]
  unfold mergeC
  rw [if_neg (fun q => q.2 rfl), e, if_neg (by rw [big_ok f.al f.gl]; decide)]
theorem merge_abs {a b : Cp} (h : (mergeC a b).1 = 0) : mergeC (mrg a b) b = (0, mrg a b) := by
  obtain ⟨_, h2, h3, h4⟩ := merge_parts h
  have e : mrg (mrg a b) b = mrg a b := by
    simp only [mrg_eq, Cp.mk.injEq]
    exact ⟨mx_abs, gr_abs _ _, uni_abs, uni_abs⟩
  have hf : ¬ (spC (mrg a b).la b.la = 0 ∧ (mrg a b).la ≠ b.la) := fun q => by
    rcases gr_or a.la b.la with r | r
    · exact q.2 (r.trans (h2 (by rw [← r]; exact q.1)))
    · exact q.2 r
  unfold mergeC
  rw [if_neg hf, e, if_neg (by rw [show big 1 (mrg a b).ad.length (mrg a b).go.length = false from big_ok h3 h4]; decide)]
end Go.Proofs.Ytfpkfbffpkjgbaa
