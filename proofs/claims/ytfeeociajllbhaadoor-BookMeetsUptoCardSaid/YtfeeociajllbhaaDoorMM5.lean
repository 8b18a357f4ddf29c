/- It goes on. Plain words. No condition. -/
import Derived.Test.YtfeeociajllbhaaDoorMM4
namespace Go.Proofs.YtfeeociajllbhaaDoor.Mt
open Go.RowKit
set_option linter.unusedVariables false
set_option linter.unusedSimpArgs false
set_option maxRecDepth 100000

/-- up to which rounds there has been anything -/
structure TopI (t : Nat) (c : MC) (s : MS) : Prop where
  vo : ∀ j, Hon c j → (memM s j).vo ≤ t
  gv : ∀ j, j < c.n → gaveM s.gv j (t + 1) = 0
theorem gave_put {gv : Gv} {i r j q : Nat} {x : Int} (hi : i < 2048) (hr : r < 2048) (hj : j < 2048) (hq : q < 2048) (hne : ¬ (i = j ∧ r = q)) : gaveM (putM gv (smN i, smN r) x) j q = gaveM gv j q := by
  unfold gaveM
  rw [getM_put, if_neg]
  intro h
  have h1 : smN i = smN j := congrArg Prod.fst h
  have h2 : smN r = smN q := congrArg Prod.snd h
  have h3 : (smN i).val = (smN j).val := by rw [h1]
  have h4 : (smN r).val = (smN q).val := by rw [h2]
  rw [smN_val hi, smN_val hj] at h3
  rw [smN_val hr, smN_val hq] at h4
  exact hne ⟨h3, h4⟩
theorem top_step {t T : Nat} {c : MC} {s : MS} {x : Sy} (h : TopI t c s) (bd : BdM T c s) (o : OkM c) (ht : t ≤ 1000) (hb : ∀ b, b < s.bl.length → rndM s b ≤ t) (hx : x.kind = 3 → x.rnd ≤ 1000 → x.rnd ≤ t) : TopI t c (stepM c s x).2 := by
  have hn7 := o.n7
  have hml := bd.mlen
  obtain ⟨kind, who, blk, rnd, hi⟩ := x
  dsimp only at hx
  unfold stepM
  dsimp only
  split
  · exact h
  split
  · unfold behindM
    dsimp only
    split
    · exact h
    split
    · exact h
    split
    · exact h
    · exact ⟨h.vo, h.gv⟩
  split
  · exact h
  rename_i hw
  obtain ⟨i, rfl, hi9⟩ := isN_nat hw
  simp only [Int.toNat_natCast]
  split
  · unfold voteStep
    split
    · exact h
    rename_i h1
    split
    · exact h
    simp only [not_or] at h1
    obtain ⟨k, rfl, hk⟩ := isN_nat h1.1
    refine ⟨fun j hj => ?_, fun j hj => h.gv j hj⟩
    rw [voted_mem (by omega)]
    split
    · exact hb k hk
    · exact h.vo j hj
  split
  · rename_i k3
    unfold lateM
    dsimp only
    split
    · exact h
    rename_i h1
    obtain ⟨r, rfl⟩ := Int.eq_ofNat_of_zero_le (a := rnd) (by omega)
    simp only [Int.toNat_natCast]
    have hr : r ≤ t := by have := hx k3 (by omega); omega
    split
    · split
      · exact ⟨h.vo, h.gv⟩
      · exact h
    have hg : ∀ j, j < c.n → gaveM (putM s.gv (smN i, smN r) (gaveM s.gv i r + 1)) j (t + 1) = 0 := fun j hj => by
      rw [gave_put (by omega) (by omega) (by omega) (by omega) (by omega)]; exact h.gv j hj
    split
    · exact ⟨h.vo, hg⟩
    · refine ⟨fun j hj => ?_, hg⟩
      rw [mem_set (by omega)]
      split
      · rename_i e; subst e; have := h.vo i hj; dsimp only; omega
      · exact h.vo j hj
  · unfold learnM
    split
    · exact h
    split
    · exact h
    · refine ⟨fun j hj => ?_, h.gv⟩
      rw [mem_set (by omega)]
      split
      · rename_i e; subst e; exact h.vo i hj
      · exact h.vo j hj
theorem top_run {t : Nat} {c : MC} (o : OkM c) (ht : t ≤ 1000) : ∀ (l : List Sy) {T : Nat} {s : MS}, TopI t c s → BdM T c s → (∀ b, b < (stM c s l).bl.length → rndM (stM c s l) b ≤ t) → (∀ x ∈ l, x.kind = 3 → x.rnd ≤ 1000 → x.rnd ≤ t) → TopI t c (stM c s l)
  | [], _, _, h, _, _, _ => h
  | x :: l, T, s, h, bd, hb, hx => by
    have g := step_chg c s x
    have hk := run_keep o (x :: l) bd
    have h1 : ∀ b, b < s.bl.length → rndM s b ≤ t := fun b h9 => by
      have := hb b (by have := hk.1; omega)
      unfold rndM at this ⊢
      rwa [hk.2.1 b h9] at this
    exact top_run o ht l (top_step h bd o ht h1 (hx x (by simp))) (bd.chg o g) hb fun y hy => hx y (by simp [hy])
theorem TopI.start (t : Nat) (c : MC) : TopI t c (ms0 c.n) := by
  refine ⟨fun j _ => ?_, fun j _ => rfl⟩
  unfold memM ms0
  dsimp only
  rw [List.getElem?_replicate]
  split <;> exact Nat.zero_le _
/-- what one knows is a certified block's round -/
def KnI (c : MC) (s : MS) : Prop := ∀ j, Hon c j → ∃ b, b < s.bl.length ∧ certM c s b = true ∧ (memM s j).kn ≤ rndM s b
theorem KnI.chg {T : Nat} {c : MC} {s s' : MS} (h : KnI c s) (bd : BdM T c s) (iv : InvM c s) (g : Chg c s s') : KnI c s' := fun j hj => by
  have hl := g.len
  have up : ∀ b, b < s.bl.length → certM c s b = true → ∀ k, k ≤ rndM s b → ∃ b, b < s'.bl.length ∧ certM c s' b = true ∧ k ≤ rndM s' b := fun b hb hc k hk => ⟨b, by omega, g.cert bd.vlen hc, by rw [g.rnd hb]; exact hk⟩
  obtain ⟨b0, h1, h2, h3⟩ := h j hj
  have hml := bd.mlen
  cases g with
  | vote i b hi h0 hb hbit ha =>
    have hp := (bd.par_lt h0 hb).1
    rw [voted_mem (by omega)]
    split
    · rename_i e
      obtain ⟨_, rfl⟩ := e
      dsimp only
      rcases Nat.le_total (memM s i).kn (rndM s (parM s b)) with q | q
      · rw [Nat.max_eq_right q]; exact up _ (by omega) (iv.pc b h0 hb) _ (Nat.le_refl _)
      · rw [Nat.max_eq_left q]; exact up b0 h1 h2 _ h3
    · exact up b0 h1 h2 _ h3
  | late i r hi hl hr1 hr2 =>
    rw [mem_set (by omega)]
    split
    · rename_i e; subst e; exact up b0 h1 h2 _ h3
    · exact up b0 h1 h2 _ h3
  | learn i b hi hl hb hc =>
    rw [mem_set (by omega)]
    split
    · rename_i e
      subst e
      dsimp only
      rcases Nat.le_total (memM s i).kn (rndM s b) with q | q
      · rw [Nat.max_eq_right q]; exact up b hb hc _ (Nat.le_refl _)
      · rw [Nat.max_eq_left q]; exact up b0 h1 h2 _ h3
    · exact up b0 h1 h2 _ h3
  | _ => exact up b0 h1 h2 _ h3
theorem KnI.run {c : MC} (o : OkM c) : ∀ (l : List Sy) {T : Nat} {s : MS}, KnI c s → BdM T c s → InvM c s → KnI c (stM c s l)
  | [], _, _, h, _, _ => h
  | x :: l, _, s, h, bd, iv => KnI.run o l (h.chg bd iv (step_chg c s x)) (bd.chg o (step_chg c s x)) (iv.chg bd o (step_chg c s x))
theorem KnI.start (c : MC) : KnI c (ms0 c.n) := fun j _ => ⟨0, by show 0 < 1; decide, decide_eq_true (.inl rfl), by
  unfold memM ms0
  dsimp only
  rw [List.getElem?_replicate]
  split <;> exact Nat.zero_le _⟩
/-! the steps that bring a decision -/
def pairS (k t : Nat) (i : Nat) : List Sy := [⟨4, (i : Int), (k : Int), 0, 0⟩, ⟨3, (i : Int), 0, (t : Int), 0⟩]
def pairsL (k t m : Nat) : List Sy := (List.range m).flatMap (pairS k t)
def voteS (b : Nat) (i : Nat) : Sy := ⟨2, (i : Int), (b : Int), 0, 0⟩
def votesL (b m : Nat) : List Sy := (List.range m).map (voteS b)
def blockS (b r : Nat) : Sy := ⟨1, 0, (b : Int), (r : Int), 0⟩
theorem pairsL_succ (k t m : Nat) : pairsL k t (m + 1) = pairsL k t m ++ [⟨4, (m : Int), (k : Int), 0, 0⟩, ⟨3, (m : Int), 0, (t : Int), 0⟩] := by unfold pairsL; rw [List.range_succ, List.flatMap_append]; simp [pairS]
theorem votesL_succ (b m : Nat) : votesL b (m + 1) = votesL b m ++ [⟨2, (m : Int), (b : Int), 0, 0⟩] := by unfold votesL; rw [List.range_succ, List.map_append]; rfl
theorem pairsL_len (k t m : Nat) : (pairsL k t m).length = 2 * m := by
  induction m with
  | zero => rfl
  | succ m ih => rw [pairsL_succ, List.length_append, ih]; simp; omega
theorem votesL_len (b m : Nat) : (votesL b m).length = m := by unfold votesL; rw [List.length_map, List.length_range]
theorem isN_yes {n : Nat} {x : Int} (h : 0 ≤ x ∧ x < n) : ¬ isN n x = false := by rw [isN_no, Classical.not_not]; exact h
/-- the first round of steps, m of them gone -/
structure Ph1 (c : MC) (s s' : MS) (t B m : Nat) : Prop where
  bl : s'.bl = s.bl
  vt : s'.vt = s.vt
  ml : s'.ms.length = c.n
  vo : ∀ j, Hon c j → (memM s' j).vo ≤ t + 1 ∧ (memM s' j).kn ≤ B
  told : ∀ j, Hon c j → j < m → toldM s'.lt (t + 1) B j = true
  gv : ∀ j, m ≤ j → j < c.n → gaveM s'.gv j (t + 1) = 0
theorem Ph1.rnd {c : MC} {s s' : MS} {t B m : Nat} (h : Ph1 c s s' t B m) (b : Nat) : rndM s' b = rndM s b := by unfold rndM; rw [h.bl]
theorem Ph1.cert {c : MC} {s s' : MS} {t B m : Nat} (h : Ph1 c s s' t B m) (b : Nat) : certM c s' b = certM c s b := by unfold certM voteM; rw [h.vt]
theorem told_new' {lt : Lt} {r i k B : Nat} {x : Int} (hr : r < 2048) (hi : i < 2048) (hk : k < 2048) (hB : k ≤ B) : toldM (putM lt (smN r, smN i, smN k) x) r B i = true := by
  have h := told_new (lt := lt) (k := (smN r, smN i, smN k)) (x := x)
  dsimp only at h
  rw [smN_val hr, smN_val hi, smN_val hk] at h
  obtain ⟨e, he, h1, h2, h3⟩ := told_iff.1 h
  exact told_iff.2 ⟨e, he, h1, by omega, h3⟩
theorem Ph1.next {c : MC} {s s' : MS} {t k m : Nat} (o : OkM c) (hk : k < s.bl.length) (hkc : certM c s k = true) (hk1 : rndM s k ≤ 1000) (ht : t + 1 ≤ 1000) (hm : m < c.n) (h : Ph1 c s s' t (rndM s k) m) : Ph1 c s (stM c s' (pairS k (t + 1) m)) t (rndM s k) (m + 1) := by
  have hn7 := o.n7
  have hbl := h.bl
  have e1 : stepM c s' ⟨4, (m : Int), (k : Int), 0, 0⟩ = learnM c s' m k := by
    unfold stepM
    rw [if_neg (by dsimp only; omega), if_neg (by dsimp only; omega), if_neg (isN_yes (by dsimp only; omega)), if_neg (by dsimp only; omega), if_neg (by dsimp only; omega)]
    rfl
  obtain ⟨s1, hs1⟩ : ∃ s1, s1 = (learnM c s' m k).2 := ⟨_, rfl⟩
  have h1 : Ph1 c s s1 t (rndM s k) m := by
    rw [hs1]
    unfold learnM
    rw [if_neg (isN_yes (by rw [hbl]; omega))]
    split
    · exact h
    · refine ⟨h.bl, h.vt, by simp [h.ml], fun j hj => ?_, h.told, h.gv⟩
      rw [mem_set (by rw [h.ml]; exact hm)]
      split
      · rename_i e
        subst e
        have := h.vo m hj
        have e9 := h.rnd k
        simp only [Int.toNat_natCast]
        exact ⟨this.1, by omega⟩
      · exact h.vo j hj
  have e2 : stepM c s1 ⟨3, (m : Int), 0, ((t + 1 : Nat) : Int), 0⟩ = lateM c s1 m ⟨3, (m : Int), 0, ((t + 1 : Nat) : Int), 0⟩ := by
    unfold stepM
    rw [if_neg (by dsimp only; omega), if_neg (by dsimp only; omega), if_neg (isN_yes (by dsimp only; omega)), if_neg (by dsimp only; omega), if_pos (by dsimp only)]
    rfl
  have e3 : stM c s' (pairS k (t + 1) m) = (lateM c s1 m ⟨3, (m : Int), 0, ((t + 1 : Nat) : Int), 0⟩).2 := by
    show (stepM c (stepM c s' ⟨4, (m : Int), (k : Int), 0, 0⟩).2 ⟨3, (m : Int), 0, ((t + 1 : Nat) : Int), 0⟩).2 = _
    rw [e1, ← hs1, e2]
  rw [e3]
  unfold lateM
  rw [if_neg (by dsimp only; omega)]
  simp only [Int.toNat_natCast]
  cases hl : liesB c.L m with
  | true =>
    rw [if_pos rfl]
    have hh : ∀ j, Hon c j → j < m + 1 → j < m := fun j hj hlt => by
      rcases Nat.lt_or_eq_of_le (Nat.le_of_lt_succ hlt) with q | q
      · exact q
      · subst q; unfold Hon at hj; rw [hl] at hj; cases hj
    split
    · exact ⟨h1.bl, h1.vt, h1.ml, h1.vo, fun j hj hlt => told_put (h1.told j hj (hh j hj hlt)), fun j hj => h1.gv j (by omega)⟩
    · exact ⟨h1.bl, h1.vt, h1.ml, h1.vo, fun j hj hlt => h1.told j hj (hh j hj hlt), fun j hj => h1.gv j (by omega)⟩
  | false =>
    rw [if_neg (by simp)]
    rw [if_neg (by rw [h1.gv m (Nat.le_refl _) hm]; decide)]
    have hv := h1.vo m hl
    refine ⟨h1.bl, h1.vt, by simp [h1.ml], fun j hj => ?_, fun j hj hlt => ?_, fun j hj hjn => ?_⟩
    · rw [mem_set (by rw [h1.ml]; exact hm)]
      split
      · exact ⟨by dsimp only; omega, hv.2⟩
      · exact h1.vo j hj
    · rcases Nat.lt_or_eq_of_le (Nat.le_of_lt_succ hlt) with q | q
      · exact told_put (h1.told j hj q)
      · subst q
        exact told_new' (by omega) (by omega) (by omega) hv.2
    · dsimp only
      rw [gave_put (by omega) (by omega) (by omega) (by omega) (by omega)]
      exact h1.gv j (by omega) hjn
theorem Ph1.all {c : MC} {s : MS} {t k : Nat} (o : OkM c) (hk : k < s.bl.length) (hkc : certM c s k = true) (hk1 : rndM s k ≤ 1000) (ht : t + 1 ≤ 1000) (h : Ph1 c s s t (rndM s k) 0) : ∀ m, m ≤ c.n → Ph1 c s (stM c s (pairsL k (t + 1) m)) t (rndM s k) m
  | 0, _ => h
  | m + 1, hm => by
    have ih := Ph1.all o hk hkc hk1 ht h m (by omega)
    rw [pairsL_succ, stM_app]
    exact ih.next o hk hkc hk1 ht (by omega)
/-- all vote for b, m of them gone -/
structure Ph3 (c : MC) (s s' : MS) (b r m : Nat) : Prop where
  bl : s'.bl = s.bl
  lt : s'.lt = s.lt
  vl : s'.vt.length = s.vt.length
  ml : s'.ms.length = c.n
  other : ∀ b', b' ≠ b → voteM s' b' = voteM s b'
  done : ∀ j, j < m → Vo s' b j
  left : ∀ j, m ≤ j → (voteM s' b).testBit j = false
  vo : ∀ j, Hon c j → (memM s' j).vo ≤ r ∧ (m ≤ j → (memM s' j).vo < r)
theorem Ph3.rnd {c : MC} {s s' : MS} {b r m : Nat} (h : Ph3 c s s' b r m) (x : Nat) : rndM s' x = rndM s x := by unfold rndM; rw [h.bl]
theorem Ph3.par {c : MC} {s s' : MS} {b r m : Nat} (h : Ph3 c s s' b r m) (x : Nat) : parM s' x = parM s x := by unfold parM; rw [h.bl]
theorem Ph3.next {c : MC} {s s' : MS} {b r m : Nat} (hb0 : 0 < b) (hb : b < s.bl.length) (hvl : s.vt.length = s.bl.length) (hr : rndM s b = r) (hp : rndM s (parM s b) + 1 = r ∨ passM c s (r - 1) (rndM s (parM s b)) = true) (hm : m < c.n) (h : Ph3 c s s' b r m) : Ph3 c s (stM c s' [voteS b m]) b r (m + 1) := by
  have hbl := h.bl
  have e1 : stM c s' [voteS b m] = votedM c s' m b := by
    show (stepM c s' ⟨2, (m : Int), (b : Int), 0, 0⟩).2 = _
    unfold stepM
    rw [if_neg (by dsimp only; omega), if_neg (by dsimp only; omega), if_neg (isN_yes (by dsimp only; omega)), if_pos (by dsimp only)]
    dsimp only
    simp only [Int.toNat_natCast]
    unfold voteStep
    rw [if_neg (by
      rw [not_or]
      exact ⟨isN_yes (by rw [hbl]; omega), by omega⟩)]
    simp only [Int.toNat_natCast]
    rw [if_neg]
    rw [h.left m (Nat.le_refl _)]
    rintro (q | ⟨q1, q2⟩)
    · cases q
    · have : agreesM c s' m b = true := by
        refine agrees_iff.2 ⟨?_, ?_⟩
        · rw [h.rnd, hr]; exact (h.vo m q1).2 (Nat.le_refl _)
        · rw [h.par, h.rnd, h.rnd, hr]
          rcases hp with q | q
          · exact .inl q
          · exact .inr (pass_mono (fun i hi => by rw [h.lt]; exact hi) q)
      rw [this] at q2; cases q2
  rw [e1]
  have hb' : b < s'.vt.length := by rw [h.vl, hvl]; exact hb
  have hvv := vote_voted (c := c) (i := m) hb'
  refine ⟨h.bl, h.lt, ?_, ?_, fun b' hne => ?_, fun j hj => ?_, fun j hj => ?_, fun j hj => ?_⟩
  · show (s'.vt.set _ _).length = _
    rw [List.length_set]; exact h.vl
  · unfold votedM
    dsimp only
    split
    · exact h.ml
    · rw [List.length_set]; exact h.ml
  · rw [hvv, if_neg (fun e => hne e.symm)]; exact h.other b' hne
  · unfold Vo
    rw [hvv, if_pos rfl, bit_or, Bool.or_eq_true, decide_eq_true_iff]
    rcases Nat.lt_or_eq_of_le (Nat.le_of_lt_succ hj) with q | q
    · exact .inl (h.done j q)
    · exact .inr q.symm
  · rw [hvv, if_pos rfl, bit_or, h.left j (by omega), decide_eq_false (by omega)]; rfl
  · have hv := h.vo j hj
    rw [voted_mem (by rw [h.ml]; exact hm)]
    split
    · rename_i e
      obtain ⟨_, rfl⟩ := e
      dsimp only
      rw [h.rnd, hr]
      exact ⟨Nat.le_refl _, fun q => by omega⟩
    · exact ⟨hv.1, fun q => hv.2 (by omega)⟩
theorem Ph3.all {c : MC} {s : MS} {b r : Nat} (hb0 : 0 < b) (hb : b < s.bl.length) (hvl : s.vt.length = s.bl.length) (hr : rndM s b = r) (hp : rndM s (parM s b) + 1 = r ∨ passM c s (r - 1) (rndM s (parM s b)) = true) (h : Ph3 c s s b r 0) : ∀ m, m ≤ c.n → Ph3 c s (stM c s (votesL b m)) b r m
  | 0, _ => h
  | m + 1, hm => by
    have ih := Ph3.all hb0 hb hvl hr hp h m (by omega)
    rw [votesL_succ, stM_app]
    exact ih.next hb0 hb hvl hr hp (by omega)
theorem pop_all {n x : Nat} (hn : n ≤ 32) (h : ∀ j, j < n → x.testBit j = true) : n ≤ pop x := by
  have := nodup_sub (List.range n) ((List.range 32).filter fun i => x.testBit i) List.nodup_range fun i hi => List.mem_filter.2 ⟨List.mem_range.2 (by have := List.mem_range.1 hi; omega), h i (List.mem_range.1 hi)⟩
  rw [List.length_range] at this
  exact this
/-- all honest ones have told: enough -/
theorem pass_all {c : MC} {s : MS} {f r h : Nat} (o : OkM c) (fw : Few c f) (H : ∀ j, Hon c j → j < c.n → toldM s.lt r h j = true) : passM c s r h = true := by
  have hn7 := o.n7
  unfold passM
  refine decide_eq_true ?_
  have h1 := nodup_sub (List.range c.n) (((List.range 32).filter fun i => toldM s.lt r h i) ++ ((List.range 32).filter fun i => c.L.testBit i)) List.nodup_range fun i hi => by
    have hi9 := List.mem_range.1 hi
    rw [List.mem_append, List.mem_filter, List.mem_filter, List.mem_range]
    cases e : liesB c.L i with
    | true => exact .inr ⟨by omega, e⟩
    | false => exact .inl ⟨by omega, H i e hi9⟩
  rw [List.length_range, List.length_append] at h1
  have h2 := fw.lie
  have h3 := fw.sum
  unfold pop at h2
  omega
/-- a new block -/
theorem block_step {c : MC} {s : MS} {k r : Nat} (hk : k < s.bl.length) (hc : certM c s k = true) (h1 : rndM s k < r) (h2 : r ≤ 1000) (h3 : s.bl.length ≠ 40) : stM c s [blockS k r] = ⟨s.bl ++ [⟨(k : Int), r⟩], s.vt ++ [0], s.ms, s.lt, s.gv⟩ := by
  show (stepM c s ⟨1, 0, (k : Int), (r : Int), 0⟩).2 = _
  unfold stepM
  rw [if_neg (by dsimp only; omega), if_pos (by dsimp only)]
  unfold behindM
  rw [if_neg (by
    rw [not_or, not_or]
    simp only [Int.toNat_natCast]
    exact ⟨isN_yes (by omega), by omega, by omega⟩)]
  simp only [Int.toNat_natCast]
  rw [if_neg (by rw [hc]; simp), if_neg h3]
def goesL (n k t a : Nat) : List Sy := pairsL k (t + 1) n ++ ([blockS k (t + 2)] ++ (votesL a n ++ ([blockS a (t + 3)] ++ votesL (a + 1) n)))
theorem goes {T t k f : Nat} {c : MC} {s : MS} (bd : BdM T c s) (o : OkM c) (iv : InvM c s) (fw : Few c f) (kn : KnI c s) (tp : TopI t c s) (hb : ∀ b, b < s.bl.length → rndM s b ≤ t)
    (hk : k < s.bl.length) (hkc : certM c s k = true) (hkb : ∀ b, b < s.bl.length → certM c s b = true → rndM s b ≤ rndM s k) (ht : t + 3 ≤ 1000) (h40 : s.bl.length + 2 ≤ 40) :
    (stM c s (goesL c.n k t s.bl.length)).bl.length = s.bl.length + 2 ∧ Chn.DecBy (blsP (stM c s (goesL c.n k t s.bl.length)).bl) (certL c (stM c s (goesL c.n k t s.bl.length))) (s.bl.length + 1) s.bl.length ∧
    Chn.DecBy (blsP (stM c s (goesL c.n k t s.bl.length)).bl) (certL c (stM c s (goesL c.n k t s.bl.length))) (s.bl.length + 1) k := by
  have hn7 := o.n7
  have hvl := bd.vlen
  have hpos := bd.pos
  have hkt := hb k hk
  have hnd := fw.sum
  have hfw := fw.few
  have p1 := Ph1.all (t := t) o hk hkc (by omega) (by omega) ⟨rfl, rfl, bd.mlen, fun j hj => by
    obtain ⟨b, h1, h2, h3⟩ := kn j hj
    have := hkb b h1 h2
    have := tp.vo j hj
    omega, fun j _ h => absurd h (Nat.not_lt_zero _), fun j _ hj => tp.gv j hj⟩ c.n (Nat.le_refl _)
  unfold goesL
  rw [stM_app]
  obtain ⟨s1, hs1⟩ : ∃ s1, s1 = stM c s (pairsL k (t + 1) c.n) := ⟨_, rfl⟩
  rw [← hs1] at p1 ⊢
  rw [stM_app, block_step (by rw [p1.bl]; exact hk) (by rw [p1.cert]; exact hkc) (by rw [p1.rnd]; omega) (by omega) (by rw [p1.bl]; omega)]
  obtain ⟨s2, hs2⟩ : ∃ s2 : MS, s2 = ⟨s1.bl ++ [⟨(k : Int), t + 2⟩], s1.vt ++ [0], s1.ms, s1.lt, s1.gv⟩ := ⟨_, rfl⟩
  rw [← hs2]
  have b2 : s2.bl = s.bl ++ [⟨(k : Int), t + 2⟩] := by rw [hs2, ← p1.bl]
  have v2 : ∀ b, voteM s2 b = voteM s b := fun b => by rw [hs2, vote_app]; unfold voteM; rw [p1.vt]
  have l2 : s2.bl.length = s.bl.length + 1 := by rw [b2]; simp
  have vl2 : s2.vt.length = s2.bl.length := by rw [l2, hs2]; simp [p1.vt, hvl]
  have ra : s2.bl[s.bl.length]? = some ⟨(k : Int), t + 2⟩ := by rw [b2, List.getElem?_append_right (Nat.le_refl _), Nat.sub_self]; rfl
  have old2 : ∀ b, b < s.bl.length → s2.bl[b]? = s.bl[b]? := fun b hb => by rw [b2, app_lt hb]
  have rk2 : rndM s2 k = rndM s k := by unfold rndM; rw [old2 k hk]
  have pa : parM s2 s.bl.length = k := by rw [parM_of ra]; rfl
  have va : voteM s2 s.bl.length = 0 := by rw [v2]; unfold voteM; rw [List.getElem?_eq_none (by omega)]; rfl
  have p3 := Ph3.all (c := c) (s := s2) (b := s.bl.length) (r := t + 2) hpos (by omega) vl2 (rndM_of ra) (.inr (by
    rw [pa, rk2, show t + 2 - 1 = t + 1 from rfl]
    exact pass_all o fw fun j h1 h2 => by rw [hs2]; exact p1.told j h1 h2)) ⟨rfl, rfl, rfl, by rw [hs2]; exact p1.ml, fun _ _ => rfl, fun j h => absurd h (Nat.not_lt_zero _), fun j _ => by rw [va]; exact Nat.zero_testBit j, fun j hj => by
    have : memM s2 j = memM s1 j := by rw [hs2]; rfl
    rw [this]
    have := (p1.vo j hj).1
    omega⟩ c.n (Nat.le_refl _)
  rw [stM_app]
  obtain ⟨s3, hs3⟩ : ∃ s3, s3 = stM c s2 (votesL s.bl.length c.n) := ⟨_, rfl⟩
  rw [← hs3] at p3 ⊢
  have c3 : certM c s3 s.bl.length = true := by
    unfold certM
    exact decide_eq_true (.inr (Nat.le_trans (by omega) (pop_all (by omega) fun j hj => p3.done j hj)))
  have k3 : certM c s3 k = true := by
    unfold certM at hkc ⊢
    rw [p3.other k (by omega), v2]; exact hkc
  have ra3 : rndM s3 s.bl.length = t + 2 := by rw [p3.rnd, rndM_of ra]
  rw [stM_app, block_step (by rw [p3.bl, l2]; omega) c3 (by rw [ra3]; omega) (by omega) (by rw [p3.bl, l2]; omega)]
  obtain ⟨s4, hs4⟩ : ∃ s4 : MS, s4 = ⟨s3.bl ++ [⟨(s.bl.length : Int), t + 3⟩], s3.vt ++ [0], s3.ms, s3.lt, s3.gv⟩ := ⟨_, rfl⟩
  rw [← hs4]
  have b4 : s4.bl = s2.bl ++ [⟨(s.bl.length : Int), t + 3⟩] := by rw [hs4, ← p3.bl]
  have v4 : ∀ b, voteM s4 b = voteM s3 b := fun b => by rw [hs4, vote_app]
  have l4 : s4.bl.length = s.bl.length + 2 := by rw [b4]; simp [l2]
  have vl4 : s4.vt.length = s4.bl.length := by rw [l4, hs4]; simp [p3.vl, vl2, l2]
  have rb : s4.bl[s.bl.length + 1]? = some ⟨(s.bl.length : Int), t + 3⟩ := by rw [b4, List.getElem?_append_right (by omega), l2, Nat.sub_self]; rfl
  have old4 : ∀ b, b < s.bl.length + 1 → s4.bl[b]? = s2.bl[b]? := fun b hb => by rw [b4, app_lt (by omega)]
  have ra4 : rndM s4 s.bl.length = t + 2 := by unfold rndM; rw [old4 _ (by omega), ra]; rfl
  have pb : parM s4 (s.bl.length + 1) = s.bl.length := by rw [parM_of rb]; rfl
  have vb : voteM s4 (s.bl.length + 1) = 0 := by rw [v4]; unfold voteM; rw [List.getElem?_eq_none (by rw [p3.vl, vl2, l2]; exact Nat.le_refl _)]; rfl
  have p5 := Ph3.all (c := c) (s := s4) (b := s.bl.length + 1) (r := t + 3) (by omega) (by omega) vl4 (rndM_of rb) (.inl (by rw [pb, ra4])) ⟨rfl, rfl, rfl, by rw [hs4]; exact p3.ml, fun _ _ => rfl, fun j h => absurd h (Nat.not_lt_zero _), fun j _ => by rw [vb]; exact Nat.zero_testBit j, fun j hj => by
    have : memM s4 j = memM s3 j := by rw [hs4]; rfl
    rw [this]
    have := (p3.vo j hj).1
    omega⟩ c.n (Nat.le_refl _)
  obtain ⟨s5, hs5⟩ : ∃ s5, s5 = stM c s4 (votesL (s.bl.length + 1) c.n) := ⟨_, rfl⟩
  rw [← hs5] at p5 ⊢
  have c5 : certM c s5 (s.bl.length + 1) = true := by
    unfold certM
    exact decide_eq_true (.inr (Nat.le_trans (by omega) (pop_all (by omega) fun j hj => p5.done j hj)))
  have a5 : certM c s5 s.bl.length = true := by
    unfold certM at c3 ⊢
    rw [p5.other _ (by omega), v4]; exact c3
  have l5 : s5.bl.length = s.bl.length + 2 := by rw [p5.bl]; exact l4
  have pr5 : Chn.pr (blsP s5.bl) (s.bl.length + 1) = s.bl.length := by rw [pr_eq, p5.par, pb]
  have pa5 : Chn.pr (blsP s5.bl) s.bl.length = k := by
    rw [pr_eq, p5.par]
    unfold parM
    rw [old4 _ (by omega), ra]; rfl
  have dec : ∀ x, Chn.Anc (blsP s5.bl) x s.bl.length → Chn.DecBy (blsP s5.bl) (certL c s5) (s.bl.length + 1) x := fun x hx => by
    refine ⟨by omega, on_cert.2 ⟨by omega, c5⟩, by rw [pr5]; exact on_cert.2 ⟨by omega, a5⟩, ⟨toP ⟨(s.bl.length : Int), t + 3⟩, toP ⟨(k : Int), t + 2⟩, ?_, ?_, ?_⟩, by rw [pr5]; exact hx⟩
    · rw [List.getElem?_map, p5.bl, rb]; rfl
    · rw [pr5, List.getElem?_map, p5.bl, old4 _ (by omega), ra]; rfl
    · show ((t + 3 : Nat) : Int) = ((t + 2 : Nat) : Int) + 1
      omega
  refine ⟨l5, dec _ (.self _), dec k (.step hpos ?_)⟩
  rw [pa5]; exact .self _
end Go.Proofs.YtfeeociajllbhaaDoor.Mt
