/- Counts, what was set last, neighbours in the other order. In plain words. No condition. -/
import Derived.Test.YtfpkfbffpkjgbaaM2
namespace Go.Proofs.Ytfpkfbffpkjgbaa
open Go.RowKit
set_option linter.unusedVariables false
set_option linter.unusedSimpArgs false
set_option maxRecDepth 100000

theorem codes_at {n : Nat} : ∀ {xs : List Sy} {s : List Cp} {i : Nat} {x : Sy}, xs[i]? = some x → (codesM n s xs)[i]? = some (stepM n (stM n s (xs.take i)) x).1
  | [], s, i, x, h => by simp at h
  | y :: xs, s, 0, x, h => by simp at h; subst h; simp [codesM, stM]
  | y :: xs, s, i + 1, x, h => by
    simp only [codesM, List.take_succ_cons, stM, List.getElem?_cons_succ] at h ⊢
    exact codes_at h
theorem code_zero {n : Nat} {s : List Cp} {x : Sy} (h : (stepM n s x).1 = 0) : wrongC n x = 0 ∧ ∃ (i : Nat) (c : Cp), x.who = (i : Int) ∧ s[i]? = some c ∧ (chg s c i x).1 = 0 ∧ stepM n s x = (0, s.set i (chg s c i x).2) := by
  by_cases hw : wrongC n x = 0
  · obtain ⟨w1, w2, w3, w4, w5, w6⟩ := wrong_facts hw
    refine ⟨hw, x.who.toNat, ?_⟩
    unfold stepM at h
    rw [if_pos hw] at h
    cases hc : s[x.who.toNat]? with
    | none => rw [hc] at h; cases h
    | some c =>
      rw [hc] at h
      dsimp only at h
      split at h
      · rename_i h0
        exact ⟨c, by omega, rfl, h0, stepM_ok hw (by omega) hc h0⟩
      · exact absurd h (by assumption)
  · rw [stepM_wrong hw] at h; exact absurd h hw
theorem code_not {n : Nat} {s : List Cp} {x : Sy} (h : ¬ (stepM n s x).1 = 0) : (stepM n s x).2 = s := by
  unfold stepM at h ⊢
  split at h
  · rename_i hw
    rw [if_pos hw]
    cases hc : s[x.who.toNat]? with
    | none => rfl
    | some c =>
      rw [hc] at h
      dsimp only at h ⊢
      split at h
      · exact absurd rfl h
      · rename_i h0; rw [if_neg h0]
  · rename_i hw; rw [if_neg hw]
/-- what each has counted of its own -/
def ownC (s : List Cp) (p : Nat) : Int := match s[p]? with
  | some c => ct c p
  | none => 0
theorem ownC_at {s : List Cp} {p : Nat} {c : Cp} (h : s[p]? = some c) : ownC s p = ct c p := by unfold ownC; rw [h]
theorem ownC_set {s : List Cp} {i p : Nat} {c' : Cp} (hi : i < s.length) : ownC (s.set i c') p = if p = i then ct c' p else ownC s p := by
  unfold ownC
  by_cases e : i = p
  · subst e; rw [List.getElem?_set_self hi, if_pos rfl]
  · rw [List.getElem?_set_ne e, if_neg (fun q => e q.symm)]
def sumS (l : List Int) (x : Sy) (e : Int) : List Int := if x.kind = 1 ∧ e = 0 then l.set x.who.toNat (l.getD x.who.toNat 0 + x.n) else l
structure CntOk (n : Nat) (s : List Cp) (l : List Int) : Prop where
  len : l.length = n
  at_ : ∀ p, p < n → l.getD p 0 = ownC s p
theorem getD_set {l : List Int} {i p : Nat} {v : Int} (hi : i < l.length) : (l.set i v).getD p 0 = if p = i then v else l.getD p 0 := by
  rw [List.getD_eq_getElem?_getD, List.getElem?_set]
  by_cases e : i = p
  · subst e; rw [if_pos rfl, if_pos hi, if_pos rfl]; rfl
  · rw [if_neg e, if_neg (fun q => e q.symm), List.getD_eq_getElem?_getD]
theorem CntOk.step {n A : Nat} {k : Int} {s : List Cp} {G : List Dt} {l : List Int} (h : InvM n A k s G) (hl : CntOk n s l) (x : Sy) : CntOk n (stepM n s x).2 (sumS l x (stepM n s x).1) := by
  by_cases h0 : (stepM n s x).1 = 0
  · obtain ⟨hw, i, c, hi, hc, hg, hst⟩ := code_zero h0
    rw [hst]
    dsimp only
    obtain ⟨w1, w2, w3, w4, w5, w6⟩ := wrong_facts hw
    have hcm := List.mem_of_getElem? hc
    have hcb := h.bd.all c hcm
    have hil := (List.getElem?_eq_some_iff.1 hc).1
    have hin : i < n := by omega
    have hown := ownC_at hc
    have same : ∀ c' : Cp, (chg s c i x).2 = c' → ¬ x.kind = 1 → ct c' i = ct c i → CntOk n (s.set i (chg s c i x).2) (sumS l x 0) := fun c' e hk1 hct => by
      unfold sumS
      rw [if_neg (fun q => hk1 q.1), e]
      refine ⟨hl.len, fun p hp => ?_⟩
      rw [ownC_set hil]
      split
      · rename_i q; subst q; rw [hct, hl.at_ p hp, hown]
      · exact hl.at_ p hp
    rcases chg_cases hw hg with ⟨e, e2⟩ | ⟨e, e2⟩ | ⟨e, e2⟩ | ⟨e, e2⟩ | ⟨e, e3, e2⟩
    · rw [e2]
      unfold sumS
      rw [if_pos ⟨e, rfl⟩, hi, Int.toNat_natCast]
      refine ⟨by rw [List.length_set]; exact hl.len, fun p hp => ?_⟩
      rw [ownC_set hil, getD_set (by rw [hl.len]; exact hin)]
      split
      · rename_i q; subst q
        rw [ct_set (by rw [hcb.cn]; exact hin), if_pos rfl, hl.at_ p hp, hown]
      · exact hl.at_ p hp
    · exact same _ e2 (by omega) rfl
    · exact same _ e2 (by omega) rfl
    · exact same _ e2 (by omega) rfl
    · refine same _ e2 (by omega) ?_
      have hf := w3 e
      obtain ⟨b, hbj⟩ := get_of_lt (xs := s) (k := x.frm.toNat) (by rw [h.bd.len]; omega)
      have hbm := List.mem_of_getElem? hbj
      rw [show s.getD x.frm.toNat cp0 = b by rw [List.getD_eq_getElem?_getD, hbj]; rfl]
      have hq : ct (mrg c b) i = mx2 (ct c i) (ct b i) := mx_getD (by rw [hcb.cn, (h.bd.all b hbm).cn])
      have := h.cnt i b c hbm hc
      rw [hq]; unfold mx2; rw [if_neg (by omega)]
  · rw [code_not h0]
    unfold sumS
    rw [if_neg (fun q => h0 q.2)]
    exact hl
theorem CntOk.start {n : Nat} : CntOk n (ms0 n) (List.replicate n 0) := ⟨List.length_replicate .., fun p hp => by
  unfold ownC ms0
  rw [List.getElem?_replicate, if_pos hp]
  rfl⟩
theorem IsJ.own {n A : Nat} {k : Int} {s : List Cp} {G : List Dt} {l : List Int} {c : Cp} (h : InvM n A k s G) (hj : IsJ n s (fun i => i < n) c) (hl : CntOk n s l) : c.cn = l := by
  refine List.ext_getElem (by rw [hj.ln, hl.len]) fun p h1 h2 => ?_
  have hp : p < n := by rw [← hj.ln]; exact h1
  obtain ⟨b, hb⟩ := get_of_lt (xs := s) (k := p) (by rw [h.bd.len]; exact hp)
  obtain ⟨i, a, q1, q2, q3⟩ := hj.cn1 p
  have u1 := h.cnt p a b (List.mem_of_getElem? q2) hb
  have u2 := hj.cn2 p p b hp hb
  have e1 : ct c p = c.cn[p] := by unfold ct; rw [List.getD_eq_getElem?_getD, List.getElem?_eq_getElem h1]; rfl
  have e2 : l.getD p 0 = l[p] := by rw [List.getD_eq_getElem?_getD, List.getElem?_eq_getElem h2]; rfl
  have e3 := hl.at_ p hp
  rw [ownC_at hb] at e3
  omega
/-! what was set last -/
theorem step_la {n A : Nat} {k : Int} {s : List Cp} {G : List Dt} (h : InvM n A k s G) (x : Sy) : ∀ c' ∈ (stepM n s x).2, (∃ c ∈ s, c'.la = c.la) ∨ (x.kind = 2 ∧ (stepM n s x).1 = 0 ∧ ∃ c ∈ s, c'.la = ⟨c.la.n + 1, x.who, x.n⟩) := fun c' hc' => by
  by_cases h0 : (stepM n s x).1 = 0
  · obtain ⟨hw, i, c, hi, hc, hg, hst⟩ := code_zero h0
    rw [hst] at hc'
    obtain ⟨w1, w2, w3, w4, w5, w6⟩ := wrong_facts hw
    have hcm := List.mem_of_getElem? hc
    rcases in_set hc' with e' | e'
    · rcases chg_cases hw hg with ⟨e, e2⟩ | ⟨e, e2⟩ | ⟨e, e2⟩ | ⟨e, e2⟩ | ⟨e, e3, e2⟩
      · exact .inl ⟨c, hcm, by rw [e', e2]⟩
      · exact .inr ⟨e, h0, c, hcm, by rw [e', e2]⟩
      · exact .inl ⟨c, hcm, by rw [e', e2]⟩
      · exact .inl ⟨c, hcm, by rw [e', e2]⟩
      · have hf := w3 e
        obtain ⟨b, hbj⟩ := get_of_lt (xs := s) (k := x.frm.toNat) (by rw [h.bd.len]; omega)
        rw [show s.getD x.frm.toNat cp0 = b by rw [List.getD_eq_getElem?_getD, hbj]; rfl] at e2
        left
        rw [e', e2]
        show ∃ d ∈ s, (if 0 < spC b.la c.la then b.la else c.la) = d.la
        split
        · exact ⟨b, List.mem_of_getElem? hbj, rfl⟩
        · exact ⟨c, hcm, rfl⟩
    · exact .inl ⟨c', e', rfl⟩
  · rw [code_not h0] at hc'; exact .inl ⟨c', hc', rfl⟩
def SetIn (n : Nat) (xs : List Sy) (k : Nat) (la : Sp) : Prop := la = ⟨0, 0, 0⟩ ∨ (0 < la.n ∧ ∃ (i : Nat) (x : Sy), i < k ∧ xs[i]? = some x ∧ x.kind = 2 ∧ (codesM n (ms0 n) xs)[i]? = some 0 ∧ x.who = la.who ∧ x.n = la.val)
theorem set_in {n : Nat} (h1n : 1 ≤ n) (xs : List Sy) : ∀ k, k ≤ xs.length → ∀ c ∈ stM n (ms0 n) (xs.take k), SetIn n xs k c.la
  | 0, _, c, hc => by
    have : c ∈ ms0 n := by simpa [stM] using hc
    exact .inl (by rw [(List.mem_replicate.1 this).2])
  | k + 1, hk, c, hc => by
    obtain ⟨x, hx⟩ := get_of_lt (xs := xs) (k := k) (by omega)
    obtain ⟨G, hI⟩ := InvM.run (xs.take k) (InvM.start h1n) (Int.le_refl 0)
    rw [stM_snoc hx] at hc
    have up : ∀ la, SetIn n xs k la → SetIn n xs (k + 1) la := fun la h => by
      rcases h with h | ⟨h1, i, y, h2, h3⟩
      · exact .inl h
      · exact .inr ⟨h1, i, y, by omega, h3⟩
    rcases step_la hI x c hc with ⟨d, hd, e⟩ | ⟨hk2, h0, d, hd, e⟩
    · rw [e]; exact up _ (set_in h1n xs k (by omega) d hd)
    · have := (hI.bd.all d hd).la
      refine .inr ⟨by rw [e]; dsimp only; omega, k, x, by omega, hx, hk2, ?_, by rw [e], by rw [e]⟩
      rw [codes_at hx, h0]
/-! neighbours in the other order -/
theorem chg_free {s t : List Cp} {c : Cp} {i : Nat} {x : Sy} (h : ¬ x.kind = 5) (hk : 1 ≤ x.kind ∧ x.kind ≤ 5) : chg s c i x = chg t c i x := by
  unfold chg
  by_cases h1 : x.kind = 1
  · rw [if_pos h1, if_pos h1]
  · rw [if_neg h1, if_neg h1]
    by_cases h2 : x.kind = 2
    · rw [if_pos h2, if_pos h2]
    · rw [if_neg h2, if_neg h2]
      by_cases h3 : x.kind = 3
      · rw [if_pos h3, if_pos h3]
      · rw [if_neg h3, if_neg h3, if_pos (by omega), if_pos (by omega)]
/-- what a step does that merges nothing: by the one copy alone -/
theorem step_one {n : Nat} {s : List Cp} {x : Sy} (h : ¬ x.kind = 5) : (∀ t : List Cp, stepM n t x = ((stepM n s x).1, t)) ∨ (∃ i : Nat, x.who = (i : Int) ∧ (∀ t : List Cp, t[i]? = s[i]? → stepM n t x = ((stepM n s x).1, t)) ∨ ∃ i : Nat, x.who = (i : Int) ∧ ∃ c', ∀ t : List Cp, t[i]? = s[i]? → stepM n t x = ((stepM n s x).1, t.set i c')) := by
  by_cases hw : wrongC n x = 0
  · obtain ⟨w1, w2, w3, w4, w5, w6⟩ := wrong_facts hw
    obtain ⟨i, hi⟩ : ∃ i : Nat, x.who = (i : Int) := ⟨x.who.toNat, by omega⟩
    right
    cases hc : s[i]? with
    | none =>
      refine ⟨i, .inl ⟨hi, fun t ht => ?_⟩⟩
      have e : ∀ t : List Cp, t[i]? = none → stepM n t x = (2, t) := fun t ht => by unfold stepM; rw [if_pos hw, hi, Int.toNat_natCast, ht]
      rw [e t (ht.trans hc), e s hc]
    | some c =>
      by_cases h0 : (chg s c i x).1 = 0
      · refine ⟨i, .inr ⟨i, hi, (chg s c i x).2, fun t ht => ?_⟩⟩
        rw [stepM_ok hw hi hc h0, stepM_ok hw hi (ht.trans hc) (by rw [chg_free h w1 (t := s)]; exact h0), chg_free h w1 (t := s)]
      · refine ⟨i, .inl ⟨hi, fun t ht => ?_⟩⟩
        rw [stepM_no hw hi hc h0, stepM_no hw hi (ht.trans hc) (by rw [chg_free h w1 (t := s)]; exact h0), chg_free h w1 (t := s)]
  · left; intro t; rw [stepM_wrong hw, stepM_wrong hw]
theorem step_swap {n : Nat} {s : List Cp} {x y : Sy} (hxy : ¬ x.who = y.who) (hx : ¬ x.kind = 5) (hy : ¬ y.kind = 5) :
    (stepM n (stepM n s x).2 y).1 = (stepM n s y).1 ∧ (stepM n (stepM n s y).2 x).1 = (stepM n s x).1 ∧ (stepM n (stepM n s x).2 y).2 = (stepM n (stepM n s y).2 x).2 := by
  rcases step_one (n := n) (s := s) hx with ha | ⟨_, ⟨i, ha⟩ | ⟨i, hi, c, ha⟩⟩ <;> rcases step_one (n := n) (s := s) hy with hb | ⟨_, ⟨j, hb⟩ | ⟨j, hj, d, hb⟩⟩
  · rw [ha s, hb s]; dsimp only; rw [ha s, hb s]; exact ⟨rfl, rfl, rfl⟩
  · rw [ha s, hb s rfl]; dsimp only; rw [ha s, hb s rfl]; exact ⟨rfl, rfl, rfl⟩
  · rw [ha s, hb s rfl]; dsimp only; rw [ha, hb s rfl]; exact ⟨rfl, rfl, rfl⟩
  · rw [ha s rfl, hb s]; dsimp only; rw [ha s rfl, hb s]; exact ⟨rfl, rfl, rfl⟩
  · rw [ha s rfl, hb s rfl]; dsimp only; rw [ha s rfl, hb s rfl]; exact ⟨rfl, rfl, rfl⟩
  · rw [ha s rfl, hb s rfl]; dsimp only
    rw [ha _ (List.getElem?_set_ne (by omega)), hb s rfl]; exact ⟨rfl, rfl, rfl⟩
  · rw [ha s rfl, hb s]; dsimp only; rw [ha s rfl, hb]; exact ⟨rfl, rfl, rfl⟩
  · rw [ha s rfl, hb s rfl]; dsimp only
    rw [ha s rfl, hb _ (List.getElem?_set_ne (by omega))]; exact ⟨rfl, rfl, rfl⟩
  · rw [ha s rfl, hb s rfl]; dsimp only
    rw [ha _ (List.getElem?_set_ne (by omega)), hb _ (List.getElem?_set_ne (by omega))]
    exact ⟨rfl, rfl, List.set_comm _ _ (by omega)⟩
section
variable {n i : Nat} {xs : List Sy} {x y : Sy} {s : List Cp}
def swp (xs : List Sy) (i : Nat) (x y : Sy) : List Sy := (xs.set i y).set (i + 1) x
theorem swp_at (hy : xs[i + 1]? = some y) : (swp xs i x y)[i]? = some y ∧ (swp xs i x y)[i + 1]? = some x := by
  have h := (List.getElem?_eq_some_iff.1 hy).1
  unfold swp
  constructor
  · rw [List.getElem?_set_ne (by omega), List.getElem?_set_self (by omega)]
  · rw [List.getElem?_set_self (by rw [List.length_set]; exact h)]
theorem swp_take : (swp xs i x y).take i = xs.take i := by
  unfold swp
  rw [List.take_set_of_le (by omega), List.take_set_of_le (Nat.le_refl _)]
theorem swp_drop : (swp xs i x y).drop (i + 2) = xs.drop (i + 2) := by
  unfold swp
  rw [List.drop_set_of_lt (by omega), List.drop_set_of_lt (by omega)]
theorem swp_len : (swp xs i x y).length = xs.length := by unfold swp; rw [List.length_set, List.length_set]
theorem swp_st (hx : xs[i]? = some x) (hy : xs[i + 1]? = some y) (hxy : ¬ x.who = y.who) (hkx : ¬ x.kind = 5) (hky : ¬ y.kind = 5) : stM n s (swp xs i x y) = stM n s xs ∧ (codesM n s (swp xs i x y))[i]? = (codesM n s xs)[i + 1]? ∧ (codesM n s (swp xs i x y))[i + 1]? = (codesM n s xs)[i]? := by
  obtain ⟨h1, h2⟩ := swp_at (x := x) hy
  obtain ⟨q1, q2, q3⟩ := step_swap (n := n) (s := stM n s (xs.take i)) hxy hkx hky
  refine ⟨?_, ?_, ?_⟩
  · have key : ∀ l : List Sy, stM n s l = stM n (stM n s (l.take (i + 2))) (l.drop (i + 2)) := fun l => by rw [← stM_app, List.take_append_drop]
    rw [key xs, key (swp xs i x y), swp_drop, stM_snoc h2, stM_snoc h1, swp_take, stM_snoc hy, stM_snoc hx, q3]
  · rw [codes_at h1, codes_at hy, swp_take, stM_snoc hx, q1]
  · rw [codes_at h2, codes_at hx, stM_snoc h1, swp_take, q2]
end
end Go.Proofs.Ytfpkfbffpkjgbaa
