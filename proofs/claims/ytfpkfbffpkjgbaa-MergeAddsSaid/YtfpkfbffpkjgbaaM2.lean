/- What is always so of copies, step by step. In plain words. No condition. -/
import Derived.Test.YtfpkfbffpkjgbaaM1
namespace Go.Proofs.Ytfpkfbffpkjgbaa
open Go.RowKit
set_option linter.unusedVariables false
set_option linter.unusedSimpArgs false
set_option maxRecDepth 100000

def addN (x : Sy) : Nat := if x.kind = 3 then 1 else 0
def adds (l : List Sy) : Nat := (l.map addN).sum
structure InvM (n A : Nat) (k : Int) (s : List Cp) (G : List Dt) : Prop where
  bd : BdM n k s
  gl : G.length ≤ A
  adG : ∀ c ∈ s, ∀ d ∈ c.ad, d ∈ G
  goA : ∀ c ∈ s, ∀ d ∈ c.go, d ∈ c.ad
  own : ∀ d ∈ G, ∀ c, s[d.who.toNat]? = some c → d ∈ c.ad
  cnt : ∀ (p : Nat) (a c : Cp), a ∈ s → s[p]? = some c → ct a p ≤ ct c p
  st0 : ∀ c ∈ s, c.la.n = 0 → c.la = ⟨0, 0, 0⟩
  stp : ∀ a c : Cp, a ∈ s → s[a.la.who.toNat]? = some c → a.la.n ≤ c.la.n
  un : UnS s
section
variable {n A A' i : Nat} {k k' : Int} {s : List Cp} {G G' : List Dt} {c c' : Cp} {x : Sy}
theorem at_set {p : Nat} {cc : Cp} (hi : i < s.length) (h : (s.set i c')[p]? = some cc) : (p = i ∧ cc = c') ∨ (p ≠ i ∧ s[p]? = some cc) := by
  by_cases e : i = p
  · subst e; rw [List.getElem?_set_self hi] at h; cases h; exact .inl ⟨rfl, rfl⟩
  · rw [List.getElem?_set_ne e] at h; exact .inr ⟨fun q => e q.symm, h⟩
theorem in_set {a : Cp} (h : a ∈ s.set i c') : a = c' ∨ a ∈ s := by
  rcases List.mem_or_eq_of_mem_set h with h | h
  · exact .inr h
  · exact .inl h
theorem InvM.put (h : InvM n A k s G) (hc : s[i]? = some c) (hb : BdM n k' (s.set i c')) (hgl : G'.length ≤ A') (hG : ∀ d ∈ G, d ∈ G') (h1 : ∀ d ∈ c'.ad, d ∈ G') (h2 : ∀ d ∈ c'.go, d ∈ c'.ad) (h3 : ∀ d ∈ c.ad, d ∈ c'.ad)
    (h4 : ∀ d ∈ G', d ∈ G ∨ (d.who.toNat = i ∧ d ∈ c'.ad)) (h5 : ∀ (p : Nat) (cc : Cp), p ≠ i → s[p]? = some cc → ct c' p ≤ ct cc p) (h6 : ct c i ≤ ct c' i) (h7 : c'.la.n = 0 → c'.la = ⟨0, 0, 0⟩) (h8 : c.la.n ≤ c'.la.n)
    (h9 : ∀ cc : Cp, c'.la.who.toNat ≠ i → s[c'.la.who.toNat]? = some cc → c'.la.n ≤ cc.la.n) (h10 : ∀ b ∈ s, spC c'.la b.la = 0 → c'.la = b.la) : InvM n A' k' (s.set i c') G' := by
  have hi := (List.getElem?_eq_some_iff.1 hc).1
  refine ⟨hb, hgl, fun a ha d hd => ?_, fun a ha d hd => ?_, fun d hd a ha => ?_, fun p a b ha hb' => ?_, fun a ha h0 => ?_, fun a b ha hb' => ?_, fun a ha b hb' h0 => ?_⟩
  · rcases in_set ha with rfl | ha
    · exact h1 d hd
    · exact hG d (h.adG a ha d hd)
  · rcases in_set ha with rfl | ha
    · exact h2 d hd
    · exact h.goA a ha d hd
  · rcases h4 d hd with q | ⟨q1, q2⟩
    · rcases at_set hi ha with ⟨e, rfl⟩ | ⟨e, ha⟩
      · exact h3 d (h.own d q c (by rw [e]; exact hc))
      · exact h.own d q a ha
    · rcases at_set hi ha with ⟨e, rfl⟩ | ⟨e, ha⟩
      · exact q2
      · exact absurd q1 e
  · rcases at_set hi hb' with ⟨rfl, rfl⟩ | ⟨e, hb2⟩
    · rcases in_set ha with rfl | ha2
      · exact Int.le_refl _
      · exact Int.le_trans (h.cnt p a c ha2 hc) h6
    · rcases in_set ha with rfl | ha2
      · exact h5 p b e hb2
      · exact h.cnt p a b ha2 hb2
  · rcases in_set ha with rfl | ha
    · exact h7 h0
    · exact h.st0 a ha h0
  · rcases at_set hi hb' with ⟨e, rfl⟩ | ⟨e, hb2⟩
    · rcases in_set ha with rfl | ha2
      · exact Int.le_refl _
      · exact Int.le_trans (h.stp a c ha2 (by rw [e]; exact hc)) h8
    · rcases in_set ha with rfl | ha2
      · exact h9 b e hb2
      · exact h.stp a b ha2 hb2
  · rcases in_set ha with rfl | ha2
    · rcases in_set hb' with rfl | hb2
      · rfl
      · exact h10 b hb2 h0
    · rcases in_set hb' with rfl | hb2
      · exact (h10 a ha2 (by rw [sp_zero] at h0 ⊢; omega)).symm
      · exact h.un a ha2 b hb2 h0
theorem InvM.mono (h : InvM n A k s G) (hA : A ≤ A') (hk : k ≤ k') : InvM n A' k' s G := ⟨h.bd.mono hk, Nat.le_trans h.gl hA, h.adG, h.goA, h.own, h.cnt, h.st0, h.stp, h.un⟩
theorem chg_cases (hw : wrongC n x = 0) (h : (chg s c i x).1 = 0) :
    (x.kind = 1 ∧ (chg s c i x).2 = ⟨c.cn.set i (ct c i + x.n), c.la, c.ad, c.go⟩) ∨ (x.kind = 2 ∧ (chg s c i x).2 = ⟨c.cn, ⟨c.la.n + 1, x.who, x.n⟩, c.ad, c.go⟩) ∨
    (x.kind = 3 ∧ (chg s c i x).2 = ⟨c.cn, c.la, uni c.ad [⟨x.item, x.who, nxt c.ad x.who⟩], c.go⟩) ∨ (x.kind = 4 ∧ (chg s c i x).2 = ⟨c.cn, c.la, c.ad, uni c.go (c.ad.filter fun d => !decide (d.item ≠ x.item))⟩) ∨
    (x.kind = 5 ∧ mergeC c (s.getD x.frm.toNat cp0) = (0, mrg c (s.getD x.frm.toNat cp0)) ∧ (chg s c i x).2 = mrg c (s.getD x.frm.toNat cp0)) := by
  obtain ⟨w1, _⟩ := wrong_facts hw
  unfold chg at h ⊢
  split at h
  · rename_i e1
    rw [if_pos e1]
    split at h
    · rename_i e2
      rw [if_pos e2]
      exact .inl ⟨e1, (szC_ok h).1⟩
    · cases h
  · rename_i e1
    rw [if_neg e1]
    split at h
    · rename_i e2
      rw [if_pos e2]
      split at h
      · cases h
      · rename_i e3
        rw [if_neg e3]
        exact .inr (.inl ⟨e2, (szC_ok h).1⟩)
    · rename_i e2
      rw [if_neg e2]
      split at h
      · rename_i e3
        rw [if_pos e3]
        exact .inr (.inr (.inl ⟨e3, (szC_ok h).1⟩))
      · rename_i e3
        rw [if_neg e3]
        split at h
        · rename_i e4
          rw [if_pos e4]
          exact .inr (.inr (.inr (.inl ⟨e4, (szC_ok h).1⟩)))
        · rename_i e4
          rw [if_neg e4]
          exact .inr (.inr (.inr (.inr ⟨by omega, Prod.ext h (mergeC_zero h), mergeC_zero h⟩)))
theorem ct_set {p : Nat} {v : Int} (hi : i < c.cn.length) : ct ⟨c.cn.set i v, c.la, c.ad, c.go⟩ p = if p = i then v else ct c p := by
  unfold ct
  show (c.cn.set i v).getD p 0 = _
  rw [List.getD_eq_getElem?_getD, List.getElem?_set]
  by_cases e : i = p
  · subst e; rw [if_pos rfl, if_pos hi, if_pos rfl]; rfl
  · rw [if_neg e, if_neg (fun q => e q.symm), List.getD_eq_getElem?_getD]
theorem InvM.step (h : InvM n A k s G) (hk : 0 ≤ k) (x : Sy) : ∃ G', InvM n (A + addN x) (k + 1) (stepM n s x).2 G' := by
  have hb := h.bd.step hk x
  have hmono : InvM n (A + addN x) (k + 1) s G := h.mono (by omega) (by omega)
  by_cases hw : wrongC n x = 0
  · obtain ⟨w1, w2, w3, w4, w5, w6⟩ := wrong_facts hw
    obtain ⟨i, hi⟩ : ∃ i : Nat, x.who = (i : Int) := ⟨x.who.toNat, by omega⟩
    obtain ⟨c, hc⟩ := get_of_lt (xs := s) (k := i) (by rw [h.bd.len]; omega)
    have hcm := List.mem_of_getElem? hc
    have hcb := h.bd.all c hcm
    by_cases h0 : (chg s c i x).1 = 0
    · have hst := stepM_ok hw hi hc h0
      rw [hst] at hb ⊢
      dsimp only at hb ⊢
      rcases chg_cases hw h0 with ⟨e, e2⟩ | ⟨e, e2⟩ | ⟨e, e2⟩ | ⟨e, e2⟩ | ⟨e, e3, e2⟩
      · rw [e2] at hb ⊢
        have hic : i < c.cn.length := by rw [hcb.cn]; omega
        have := w4 e
        refine ⟨G, h.put hc hb (by have := h.gl; omega) (fun _ q => q) (h.adG c hcm) (h.goA c hcm) (fun _ q => q) (fun _ q => .inl q) (fun p cc hp hcc => ?_) ?_ (h.st0 c hcm) (Int.le_refl _) (fun cc _ hcc => h.stp c cc hcm hcc) (h.un c hcm)⟩
        · rw [ct_set hic, if_neg hp]; exact h.cnt p c cc hcm hcc
        · rw [ct_set hic, if_pos rfl]; omega
      · rw [e2] at hb ⊢
        have hla := hcb.la
        refine ⟨G, h.put hc hb (by have := h.gl; omega) (fun _ q => q) (h.adG c hcm) (h.goA c hcm) (fun _ q => q) (fun _ q => .inl q) (fun p cc hp hcc => h.cnt p c cc hcm hcc) (Int.le_refl _) (fun q => by dsimp only at q; omega) (by dsimp only; omega) (fun cc q _ => absurd (by dsimp only; omega) q) (fun b hbm q => ?_)⟩
        exfalso
        rw [sp_zero] at q
        dsimp only at q
        have := h.stp b c hbm (by rw [← q.2, hi, Int.toNat_natCast]; exact hc)
        omega
      · rw [e2] at hb ⊢
        refine ⟨G ++ [⟨x.item, x.who, nxt c.ad x.who⟩], h.put hc hb ?_ (fun _ q => List.mem_append.2 (.inl q)) (fun d hd => ?_) (fun d hd => uni_mem.2 (.inl (h.goA c hcm d hd))) (fun d hd => uni_mem.2 (.inl hd)) (fun d hd => ?_) (fun p cc hp hcc => h.cnt p c cc hcm hcc) (Int.le_refl _) (h.st0 c hcm) (Int.le_refl _) (fun cc _ hcc => h.stp c cc hcm hcc) (h.un c hcm)⟩
        · have := h.gl
          unfold addN; rw [if_pos e, List.length_append, List.length_singleton]; omega
        · rcases uni_mem.1 hd with q | q
          · exact List.mem_append.2 (.inl (h.adG c hcm d q))
          · exact List.mem_append.2 (.inr q)
        · rcases List.mem_append.1 hd with q | q
          · exact .inl q
          · refine .inr ⟨?_, uni_mem.2 (.inr q)⟩
            rw [List.mem_singleton] at q; subst q; dsimp only; omega
      · rw [e2] at hb ⊢
        refine ⟨G, h.put hc hb (by have := h.gl; omega) (fun _ q => q) (h.adG c hcm) (fun d hd => ?_) (fun _ q => q) (fun _ q => .inl q) (fun p cc hp hcc => h.cnt p c cc hcm hcc) (Int.le_refl _) (h.st0 c hcm) (Int.le_refl _) (fun cc _ hcc => h.stp c cc hcm hcc) (h.un c hcm)⟩
        rcases uni_mem.1 hd with q | q
        · exact h.goA c hcm d q
        · exact (List.mem_filter.1 q).1
      · rw [e2] at hb ⊢
        have hf := w3 e
        obtain ⟨b, hbj⟩ := get_of_lt (xs := s) (k := x.frm.toNat) (by rw [h.bd.len]; omega)
        have hbm := List.mem_of_getElem? hbj
        have hbb := h.bd.all b hbm
        rw [show s.getD x.frm.toNat cp0 = b by rw [List.getD_eq_getElem?_getD, hbj]; rfl] at hb ⊢
        have hct : ∀ p, ct (mrg c b) p = mx2 (ct c p) (ct b p) := fun p => mx_getD (by rw [hcb.cn, hbb.cn])
        have hla : (mrg c b).la = c.la ∨ (mrg c b).la = b.la := by
          show (if 0 < spC b.la c.la then b.la else c.la) = _ ∨ (if 0 < spC b.la c.la then b.la else c.la) = _
          split
          · exact .inr rfl
          · exact .inl rfl
        refine ⟨G, h.put hc hb (by have := h.gl; omega) (fun _ q => q) (fun d hd => ?_) (fun d hd => ?_) (fun d hd => uni_mem.2 (.inl hd)) (fun _ q => .inl q) (fun p cc hp hcc => ?_) ?_ (fun q => ?_) ?_ (fun cc _ hcc => ?_) (fun a ha q => ?_)⟩
        · rcases uni_mem.1 hd with q | q
          · exact h.adG c hcm d q
          · exact h.adG b hbm d q
        · rcases uni_mem.1 hd with q | q
          · exact uni_mem.2 (.inl (h.goA c hcm d q))
          · exact uni_mem.2 (.inr (h.goA b hbm d q))
        · rw [hct]
          rcases mx2_or (ct c p) (ct b p) with q | q
          · rw [q]; exact h.cnt p c cc hcm hcc
          · rw [q]; exact h.cnt p b cc hbm hcc
        · rw [hct]; exact (mx2_le _ _).1
        · rcases hla with e | e
          · rw [e] at q ⊢; exact h.st0 c hcm q
          · rw [e] at q ⊢; exact h.st0 b hbm q
        · show c.la.n ≤ (if 0 < spC b.la c.la then b.la else c.la).n
          split
          · rename_i q; rw [sp_pos] at q; omega
          · exact Int.le_refl _
        · rcases hla with e | e
          · rw [e] at hcc ⊢; exact h.stp c cc hcm hcc
          · rw [e] at hcc ⊢; exact h.stp b cc hbm hcc
        · rcases hla with e | e
          · rw [e] at q ⊢; exact h.un c hcm a ha q
          · rw [e] at q ⊢; exact h.un b hbm a ha q
    · rw [stepM_no hw hi hc h0]; exact ⟨G, hmono⟩
  · rw [stepM_wrong hw]; exact ⟨G, hmono⟩
end
theorem InvM.run {n : Nat} : ∀ (l : List Sy) {A : Nat} {k : Int} {s : List Cp} {G : List Dt}, InvM n A k s G → 0 ≤ k → ∃ G', InvM n (A + adds l) (k + l.length) (stM n s l) G'
  | [], A, k, s, G, h, _ => ⟨G, by simpa [stM, adds] using h⟩
  | x :: l, A, k, s, G, h, hk => by
    obtain ⟨G1, h1⟩ := h.step hk x
    obtain ⟨G2, h2⟩ := InvM.run l h1 (by omega)
    refine ⟨G2, ?_⟩
    have e : A + addN x + adds l = A + adds (x :: l) := by unfold adds; rw [List.map_cons, List.sum_cons]; omega
    rw [e] at h2
    simp only [stM, List.length_cons]
    exact h2.mono (Nat.le_refl _) (by omega)
theorem InvM.start {n : Nat} (hn : 1 ≤ n) : InvM n 0 0 (ms0 n) [] := by
  have hm : ∀ c ∈ ms0 n, c = ⟨List.replicate n 0, ⟨0, 0, 0⟩, [], []⟩ := fun c hc => (List.mem_replicate.1 hc).2
  refine ⟨BdM.start hn, Nat.le_refl _, fun c hc d hd => ?_, fun c hc d hd => ?_, fun d hd => (by cases hd), fun p a c ha hc => ?_, fun c hc _ => ?_, fun a c ha hc => ?_, fun a ha b hb _ => ?_⟩
  · rw [hm c hc] at hd; cases hd
  · rw [hm c hc] at hd; cases hd
  · rw [hm a ha, hm c (List.mem_of_getElem? hc)]; exact Int.le_refl _
  · rw [hm c hc]
  · rw [hm a ha, hm c (List.mem_of_getElem? hc)]; exact Int.le_refl _
  · rw [hm a ha, hm b hb]
theorem adds_len : ∀ l : List Sy, adds l ≤ l.length
  | [] => Nat.le_refl _
  | x :: l => by
    have := adds_len l
    have h1 : addN x ≤ 1 := by unfold addN; split <;> omega
    unfold adds at this ⊢
    rw [List.map_cons, List.sum_cons, List.length_cons]
    omega
theorem adds_app (l l' : List Sy) : adds (l ++ l') = adds l + adds l' := by unfold adds; rw [List.map_append, List.sum_append]
theorem adds_mgs (i : Nat) : ∀ j, adds (mgs i j) = 0
  | 0 => rfl
  | j + 1 => by have := adds_mgs i j; rw [mgs]; split; rw [adds_app, this]; rfl; exact this
theorem adds_rws (n : Nat) : ∀ i, adds (rws n i) = 0
  | 0 => rfl
  | i + 1 => by rw [rws, adds_app, adds_rws n i, adds_mgs]
theorem adds_tms (n : Nat) : ∀ t, adds (tms n t) = 0
  | 0 => rfl
  | t + 1 => by rw [tms, adds_app, adds_tms n t, adds_rws]
theorem InvM.few {n A : Nat} {k : Int} {s : List Cp} {G : List Dt} (h : InvM n A k s G) (hA : A ≤ 60) : FewS s := ⟨G, by have := h.gl; omega, fun c hc => ⟨h.adG c hc, fun d hd => h.adG c hc d (h.goA c hc d hd)⟩⟩
theorem InvM.sync {n A : Nat} {k : Int} {s : List Cp} {G : List Dt} (h : InvM n A k s G) (hA : A ≤ 60) : (stM n s (tms n 2)).length = n ∧ ∀ c ∈ stM n s (tms n 2), IsJ n s (fun i => i < n) c :=
  synced_all h.un (h.few hA) h.bd.len fun c hc => ⟨(h.bd.all c hc).cn, (h.bd.all c hc).au, (h.bd.all c hc).gu⟩
/-- all are the same -/
theorem InvM.meets {n A : Nat} {k : Int} {s : List Cp} {G : List Dt} (h : InvM n A k s G) (hA : A ≤ 60) : ∀ a ∈ stM n s (tms n 2), ∀ b ∈ stM n s (tms n 2), a = b := fun a ha b hb =>
  ((h.sync hA).2 a ha).uniq h.un ((h.sync hA).2 b hb) fun _ => Iff.rfl
end Go.Proofs.Ytfpkfbffpkjgbaa
