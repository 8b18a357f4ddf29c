/- Quorums. Plain words. No condition. -/
import Derived.Test.YtfeeociajllbhaaDoorMM2
import Derived.Test.YtfeeociajllbhaaDoorMA8
namespace Go.Proofs.YtfeeociajllbhaaDoor.Mt
open Go.RowKit
set_option linter.unusedVariables false
set_option linter.unusedSimpArgs false
set_option maxRecDepth 100000

theorem honest_in {c : MC} {S : List Nat} {m : Nat} (hm : pop c.L ≤ m) (hn : S.Nodup) (hs : ∀ a ∈ S, a < 32) (hl : m < S.length) : ∃ a ∈ S, Hon c a := by
  apply Classical.byContradiction
  intro h
  have := nodup_sub S ((List.range 32).filter fun i => c.L.testBit i) hn fun a ha => List.mem_filter.2 ⟨List.mem_range.2 (hs a ha), by
    cases e : liesB c.L a with
    | true => exact e
    | false => exact absurd ⟨a, ha, e⟩ h⟩
  unfold pop at hm; omega
theorem honest_both {c : MC} {S T : List Nat} {m : Nat} (hm : pop c.L ≤ m) (hn : c.n ≤ 32) (hS : S.Nodup) (hT : T.Nodup) (hs : ∀ a ∈ S, a < c.n) (ht : ∀ a ∈ T, a < c.n) (hl : c.n + m < S.length + T.length) : ∃ a, a ∈ S ∧ a ∈ T ∧ Hon c a := by
  have h1 := nodup_sub (S.filter (fun a => decide (a ∉ T)) ++ T) (List.range c.n) (by
    rw [List.nodup_append]
    exact ⟨hS.filter _, hT, fun a ha b hb e => by
      have := of_decide_eq_true (List.mem_filter.1 ha).2
      subst e; exact this hb⟩) (fun a ha => by
    rcases List.mem_append.1 ha with q | q
    · exact List.mem_range.2 (hs a (List.mem_filter.1 q).1)
    · exact List.mem_range.2 (ht a q))
  rw [List.length_append, List.length_range] at h1
  have h2 : (S.filter (fun a => decide (a ∈ T))).length + (S.filter (fun a => decide (a ∉ T))).length = S.length := by
    clear hS hs hl h1
    induction S with
    | nil => rfl
    | cons a S ih =>
      by_cases q : a ∈ T <;> simp only [List.filter_cons, q, List.length_cons, decide_true, decide_false, not_true, not_false_iff, if_true] <;> simp <;> simp at ih <;> omega
  obtain ⟨a, h3, h4⟩ := honest_in (c := c) hm (S := S.filter (fun a => decide (a ∈ T))) (hS.filter _) (fun a ha => by have := hs a (List.mem_filter.1 ha).1; omega) (by omega)
  obtain ⟨h5, h6⟩ := List.mem_filter.1 h3
  exact ⟨a, h5, of_decide_eq_true h6, h4⟩
/-- few liars, and how many are needed -/
structure Few (c : MC) (f : Nat) : Prop where
  lie : pop c.L ≤ f
  few : 3 * f < c.n
  sum : c.need + f = c.n
def Qv (s : MS) (b : Nat) : List Nat := (List.range 32).filter fun i => (voteM s b).testBit i
theorem Qv_nodup (s : MS) (b : Nat) : (Qv s b).Nodup := List.nodup_range.filter _
theorem mem_Qv {s : MS} {b i : Nat} (h : i ∈ Qv s b) : Vo s b i := (List.mem_filter.1 h).2
theorem bit_lt {x n i : Nat} (hx : x < 2 ^ n) (h : x.testBit i = true) : i < n := by
  apply Classical.byContradiction
  intro q
  rw [Nat.testBit_lt_two_pow (Nat.lt_of_lt_of_le hx (Nat.pow_le_pow_right (by decide) (Nat.le_of_not_lt q)))] at h
  cases h
theorem Qv_lt {T : Nat} {c : MC} {s : MS} (bd : BdM T c s) {b i : Nat} (h : i ∈ Qv s b) : i < c.n := bit_lt (bd.vote_lt b) (mem_Qv h)
theorem cert_len {c : MC} {s : MS} {b : Nat} (h : certM c s b = true) (h0 : 0 < b) : c.need ≤ (Qv s b).length := by
  unfold certM at h
  rcases of_decide_eq_true h with q | q
  · omega
  · exact q
theorem pr_eq {s : MS} (b : Nat) : Chn.pr (blsP s.bl) b = parM s b := by
  unfold Chn.pr parM
  rw [List.getElem?_map]
  cases s.bl[b]? <;> rfl
theorem on_cert {c : MC} {s : MS} {b : Nat} : Chn.On (certL c s) b ↔ b < s.bl.length ∧ certM c s b = true := by
  unfold Chn.On certL
  rw [List.getElem?_map]
  rcases Nat.lt_or_ge b s.bl.length with h | h
  · rw [List.getElem?_range h]; simp [h]
  · rw [List.getElem?_eq_none (by simpa using h)]; simp; omega
theorem dec_lock {c : MC} {s : MS} {k b : Nat} (h : Chn.DecBy (blsP s.bl) (certL c s) k b) : 0 < k ∧ k < s.bl.length ∧ certM c s k = true ∧ certM c s (parM s k) = true ∧ rndM s k = rndM s (parM s k) + 1 ∧ Chn.Anc (blsP s.bl) b (parM s k) := by
  obtain ⟨h0, h1, h2, ⟨x, y, h3, h4, h5⟩, h6⟩ := h
  rw [pr_eq] at h2 h4 h6
  rw [on_cert] at h1 h2
  refine ⟨h0, h1.1, h1.2, h2.2, ?_, h6⟩
  obtain ⟨x', hx'⟩ := get_of_lt h1.1
  obtain ⟨y', hy'⟩ := get_of_lt h2.1
  rw [List.getElem?_map, hx'] at h3
  rw [List.getElem?_map, hy'] at h4
  cases h3; cases h4
  rw [rndM_of hx', rndM_of hy']
  have : ((x'.rnd : Nat) : Int) = ((y'.rnd : Nat) : Int) + 1 := h5
  omega
section
variable {T f : Nat} {c : MC} {s : MS} (bd : BdM T c s) (o : OkM c) (iv : InvM c s) (fw : Few c f)
include bd
theorem rnd_zero : rndM s 0 = 0 := by rw [rndM_of bd.first]
theorem rnd_pos {b : Nat} (h0 : 0 < b) (hb : b < s.bl.length) : 0 < rndM s b := by have := (bd.par_lt h0 hb).2; omega
include o fw
theorem two_quorums {a b : Nat} (ha : certM c s a = true) (hb : certM c s b = true) (h0 : 0 < a) (h1 : 0 < b) : ∃ i, Hon c i ∧ Vo s a i ∧ Vo s b i := by
  have h2 := cert_len ha h0
  have h3 := cert_len hb h1
  have := fw.few
  have := fw.sum
  have := o.n7
  obtain ⟨i, k1, k2, k3⟩ := honest_both fw.lie (by omega) (Qv_nodup s a) (Qv_nodup s b) (fun _ h => Qv_lt bd h) (fun _ h => Qv_lt bd h) (by omega)
  exact ⟨i, k3, mem_Qv k1, mem_Qv k2⟩
include iv
theorem one_round {a b : Nat} (hal : a < s.bl.length) (hbl : b < s.bl.length) (ha : certM c s a = true) (hb : certM c s b = true) (hr : rndM s a = rndM s b) : a = b := by
  have z := rnd_zero bd
  rcases Nat.eq_zero_or_pos a with rfl | h0
  · rcases Nat.eq_zero_or_pos b with rfl | h1
    · rfl
    · have := rnd_pos bd h1 hbl; omega
  · rcases Nat.eq_zero_or_pos b with rfl | h1
    · have := rnd_pos bd h0 hal; omega
    · obtain ⟨i, k1, k2, k3⟩ := two_quorums bd o fw ha hb h0 h1
      exact iv.ds i a b k1 k2 k3 hr
theorem lock {k : Nat} (hk0 : 0 < k) (hkl : k < s.bl.length) (hk : certM c s k = true) (hp : certM c s (parM s k) = true) (hr : rndM s k = rndM s (parM s k) + 1) :
    ∀ (m x : Nat), x ≤ m → x < s.bl.length → certM c s x = true → rndM s (parM s k) < rndM s x → Chn.Anc (blsP s.bl) (parM s k) x
  | m, x, hxm, hxl, hx, hlt => by
    have hpl := (bd.par_lt hk0 hkl).1
    have z := rnd_zero bd
    by_cases hrx : rndM s x = rndM s k
    · obtain rfl := one_round bd o iv fw hxl hkl hx hk hrx
      exact .step hk0 (by rw [pr_eq]; exact .self _)
    · have h0 : 0 < x := by
        rcases Nat.eq_zero_or_pos x with rfl | h
        · omega
        · exact h
      have hpx := bd.par_lt h0 hxl
      have hpc := iv.pc x h0 hxl
      have ih : rndM s (parM s k) < rndM s (parM s x) → Chn.Anc (blsP s.bl) (parM s k) x := fun h => by
        refine .step h0 ?_
        rw [pr_eq]
        match m, hxm with
        | 0, hxm => omega
        | m + 1, hxm => exact lock hk0 hkl hk hp hr m (parM s x) (by omega) (by omega) hpc h
      obtain ⟨i, k1, k2, k3⟩ := two_quorums bd o fw hx hk h0 hk0
      rcases iv.ps i x k1 k2 with q | q
      · exact ih (by omega)
      · rcases Nat.lt_trichotomy (rndM s (parM s k)) (rndM s (parM s x)) with e | e | e
        · exact ih e
        · have := one_round bd o iv fw (by omega) (by omega) hp hpc e
          refine .step h0 ?_
          rw [pr_eq, ← this]
          exact .self _
        · exfalso
          unfold passM at q
          have h2 := of_decide_eq_true q
          have h3 := cert_len hk hk0
          have := fw.few
          have := fw.sum
          have := o.n7
          obtain ⟨j, j1, j2, j3⟩ := honest_both fw.lie (by omega) (S := (List.range 32).filter fun i => toldM s.lt (rndM s x - 1) (rndM s (parM s x)) i) (List.nodup_range.filter _) (Qv_nodup s k) (fun a h => by
            obtain ⟨e, he, _, _, e3⟩ := told_iff.1 (List.mem_filter.1 h).2
            rw [← e3]; exact bd.lt e he) (fun _ h => Qv_lt bd h) (by omega)
          obtain ⟨e, he, e1, e2, e3⟩ := told_iff.1 (List.mem_filter.1 j1).2
          subst e3
          have := ((iv.lt e he).2 j3).2 k (mem_Qv j2) (by omega)
          omega
theorem dec_line {a b k k' : Nat} (hab : b ≤ a) (ha : Chn.DecBy (blsP s.bl) (certL c s) k a) (hb : Chn.DecBy (blsP s.bl) (certL c s) k' b) : Chn.Anc (blsP s.bl) b a := by
  obtain ⟨a0, a1, a2, a3, a4, a5⟩ := dec_lock ha
  obtain ⟨b0, b1, b2, b3, b4, b5⟩ := dec_lock hb
  have hpa := (bd.par_lt a0 a1).1
  have hpb := (bd.par_lt b0 b1).1
  have hl : (blsP s.bl).length = s.bl.length := List.length_map ..
  rcases Nat.lt_trichotomy (rndM s (parM s k)) (rndM s (parM s k')) with e | e | e
  · have := lock bd o iv fw a0 a1 a2 a3 a4 _ (parM s k') (Nat.le_refl _) (by omega) b3 e
    exact bd.okc.line b5 (a5.trans this) (by omega) hab
  · have := one_round bd o iv fw (by omega) (by omega) a3 b3 e
    rw [this] at a5
    exact bd.okc.line b5 a5 (by omega) hab
  · have := lock bd o iv fw b0 b1 b2 b3 b4 _ (parM s k) (Nat.le_refl _) (by omega) a3 e
    exact bd.okc.line (b5.trans this) a5 (by omega) hab
end
end Go.Proofs.YtfeeociajllbhaaDoor.Mt
