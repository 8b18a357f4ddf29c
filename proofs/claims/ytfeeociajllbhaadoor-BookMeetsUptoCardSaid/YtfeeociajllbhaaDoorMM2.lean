/- Votes. Plain words. No condition. -/
import Derived.Test.YtfeeociajllbhaaDoorMM1
namespace Go.Proofs.YtfeeociajllbhaaDoor.Mt
open Go.RowKit
set_option linter.unusedVariables false
set_option linter.unusedSimpArgs false
set_option maxRecDepth 100000

def Hon (c : MC) (i : Nat) : Prop := liesB c.L i = false
abbrev Vo (s : MS) (b i : Nat) : Prop := (voteM s b).testBit i = true
theorem nodup_sub : ∀ (l l' : List Nat), l.Nodup → (∀ x ∈ l, x ∈ l') → l.length ≤ l'.length
  | [], _, _, _ => Nat.zero_le _
  | a :: l, l', hn, hs => by
    obtain ⟨h1, h2⟩ := List.nodup_cons.1 hn
    have := nodup_sub l (l'.erase a) h2 fun x hx => (List.mem_erase_of_ne (fun e => by subst e; exact h1 hx)).2 (hs x (by simp [hx]))
    have h3 := List.length_erase_of_mem (hs a (by simp))
    have h4 := List.length_pos_of_mem (hs a (by simp))
    simp only [List.length_cons]; omega
theorem pop_mono {x y : Nat} (h : ∀ i, x.testBit i = true → y.testBit i = true) : pop x ≤ pop y := by
  unfold pop
  exact nodup_sub _ _ (List.nodup_range.filter _) fun i hi => List.mem_filter.2 ⟨(List.mem_filter.1 hi).1, h i (List.mem_filter.1 hi).2⟩
theorem told_iff {lt : Lt} {r h i : Nat} : toldM lt r h i = true ↔ ∃ e ∈ lt, e.1.1.val = r ∧ e.1.2.2.val ≤ h ∧ e.1.2.1.val = i := by
  unfold toldM
  rw [List.any_eq_true]
  constructor
  · rintro ⟨e, he, h⟩; exact ⟨e, he, of_decide_eq_true h⟩
  · rintro ⟨e, he, h⟩; exact ⟨e, he, decide_eq_true h⟩
theorem told_put {lt : Lt} {k : Sm × Sm × Sm} {x : Int} {r h i : Nat} (H : toldM lt r h i = true) : toldM (putM lt k x) r h i = true := by
  obtain ⟨e, he, h1⟩ := told_iff.1 H
  have : e.1 ∈ (putM lt k x).map (·.1) := putM_keyI.2 (.inr (List.mem_map.2 ⟨e, he, rfl⟩))
  obtain ⟨e', he', h2⟩ := List.mem_map.1 this
  exact told_iff.2 ⟨e', he', by rw [h2]; exact h1⟩
theorem told_new {lt : Lt} {k : Sm × Sm × Sm} {x : Int} : toldM (putM lt k x) k.1.val k.2.2.val k.2.1.val = true := by
  have : k ∈ (putM lt k x).map (·.1) := putM_keyI.2 (.inl rfl)
  obtain ⟨e', he', h2⟩ := List.mem_map.1 this
  exact told_iff.2 ⟨e', he', by rw [h2]; exact ⟨rfl, Nat.le_refl _, rfl⟩⟩
theorem pass_mono {c : MC} {s s' : MS} {r h : Nat} (hm : ∀ i, toldM s.lt r h i = true → toldM s'.lt r h i = true) (H : passM c s r h = true) : passM c s' r h = true := by
  unfold passM at H ⊢
  have h1 := of_decide_eq_true H
  refine decide_eq_true (Nat.le_trans h1 (nodup_sub _ _ (List.nodup_range.filter _) fun i hi => ?_))
  exact List.mem_filter.2 ⟨(List.mem_filter.1 hi).1, hm i (List.mem_filter.1 hi).2⟩
theorem bit_or {x i j : Nat} : (x ||| 2 ^ i).testBit j = (x.testBit j || decide (i = j)) := by rw [Nat.testBit_or, Nat.testBit_two_pow]
/-! what a step leaves -/
theorem app_lt {α : Type} {l : List α} {x : α} {b : Nat} (h : b < l.length) : (l ++ [x])[b]? = l[b]? := List.getElem?_append_left h
theorem Chg.len {c : MC} {s s' : MS} (g : Chg c s s') : s.bl.length ≤ s'.bl.length := by
  cases g <;> simp [votedM]
theorem Chg.bl {c : MC} {s s' : MS} (g : Chg c s s') {b : Nat} (hb : b < s.bl.length) : s'.bl[b]? = s.bl[b]? := by
  cases g <;> first | rfl | exact app_lt hb
theorem Chg.rnd {c : MC} {s s' : MS} (g : Chg c s s') {b : Nat} (hb : b < s.bl.length) : rndM s' b = rndM s b := by unfold rndM; rw [g.bl hb]
theorem Chg.par {c : MC} {s s' : MS} (g : Chg c s s') {b : Nat} (hb : b < s.bl.length) : parM s' b = parM s b := by unfold parM; rw [g.bl hb]
theorem vote_app {s : MS} (bl : List Bk) (ms : List Mm) (lt : Lt) (gv : Gv) (b : Nat) : voteM ⟨bl, s.vt ++ [0], ms, lt, gv⟩ b = voteM s b := by
  unfold voteM
  dsimp only
  rcases Nat.lt_or_ge b s.vt.length with h | h
  · rw [app_lt h]
  · rw [List.getElem?_eq_none h, List.getElem?_append_right h]
    cases b - s.vt.length <;> rfl
theorem vote_voted {c : MC} {s : MS} {i b : Nat} (hb : b < s.vt.length) (b' : Nat) : voteM (votedM c s i b) b' = if b = b' then voteM s b ||| 2 ^ i else voteM s b' := by
  unfold votedM
  show (((s.vt.set b (voteM s b ||| 2 ^ i))[b']?).getD 0) = _
  rw [List.getElem?_set]
  split
  · rename_i h; subst h; first | rfl | (rw [if_pos hb]; rfl)
  · rfl
theorem voted_uniq {c : MC} {s : MS} {i b b2 : Nat} (e : votedM c s i b = votedM c s i b2) (hb : b < s.vt.length) (hb2 : b2 < s.vt.length) (h : (voteM s b2).testBit i = false) : b = b2 := by
  apply Classical.byContradiction
  intro q
  have h1 : voteM (votedM c s i b) b2 = voteM (votedM c s i b2) b2 := by rw [e]
  rw [vote_voted hb, if_neg q, vote_voted hb2, if_pos rfl] at h1
  rw [h1, bit_or, decide_eq_true rfl, Bool.or_true] at h
  cases h
theorem Chg.vote_iff {c : MC} {s s' : MS} (g : Chg c s s') (hv : s.vt.length = s.bl.length) {b j : Nat} : Vo s' b j ↔ Vo s b j ∨ (∃ i b', s' = votedM c s i b' ∧ b' = b ∧ i = j ∧ i < c.n ∧ 0 < b' ∧ b' < s.bl.length ∧ (voteM s b').testBit i = false ∧ (liesB c.L i = false → agreesM c s i b' = true)) ∨ False := by
  rw [or_false]
  constructor
  · intro h
    cases g with
    | block p r => exact .inl (by unfold Vo at h ⊢; rwa [vote_app] at h)
    | vote i b' hi h0 hb hbit ha =>
      unfold Vo at h
      rw [vote_voted (by omega)] at h
      split at h
      · rename_i e
        subst e
        rw [bit_or, Bool.or_eq_true, decide_eq_true_iff] at h
        rcases h with h | h
        · exact .inl h
        · exact .inr ⟨i, b', rfl, rfl, h, hi, h0, hb, hbit, ha⟩
      · exact .inl h
    | _ => exact .inl h
  · rintro (h | ⟨i, b', rfl, rfl, rfl, hi, h0, hb, _, _⟩)
    · cases g with
      | block p r => unfold Vo; rw [vote_app]; exact h
      | vote i b' hi h0 hb hbit ha =>
        unfold Vo
        rw [vote_voted (by omega)]
        split
        · rename_i e; subst e; rw [bit_or, h, Bool.true_or]
        · exact h
      | _ => exact h
    · unfold Vo; rw [vote_voted (by omega), if_pos rfl, bit_or, decide_eq_true rfl, Bool.or_true]
theorem Chg.keep {c : MC} {s s' : MS} (g : Chg c s s') (hv : s.vt.length = s.bl.length) {b j : Nat} (h : Vo s b j) : Vo s' b j := (g.vote_iff hv).2 (.inl h)
theorem Chg.cert {c : MC} {s s' : MS} (g : Chg c s s') (hv : s.vt.length = s.bl.length) {b : Nat} (h : certM c s b = true) : certM c s' b = true := by
  unfold certM at h ⊢
  rcases of_decide_eq_true h with h | h
  · exact decide_eq_true (.inl h)
  · exact decide_eq_true (.inr (Nat.le_trans h (pop_mono fun i hi => g.keep hv hi)))
theorem Chg.told {c : MC} {s s' : MS} (g : Chg c s s') {r h i : Nat} (H : toldM s.lt r h i = true) : toldM s'.lt r h i = true := by
  cases g <;> first | exact H | exact told_put H
theorem Chg.pass {c : MC} {s s' : MS} (g : Chg c s s') {r h : Nat} (H : passM c s r h = true) : passM c s' r h = true := pass_mono (fun i => g.told) H
/-- what one has voted and knows only grows -/
theorem mem_set {s : MS} {i j : Nat} {m : Mm} (hi : i < s.ms.length) (bl : List Bk) (vt : List Nat) (lt : Lt) (gv : Gv) : memM ⟨bl, vt, s.ms.set i m, lt, gv⟩ j = if i = j then m else memM s j := by
  unfold memM
  dsimp only
  rw [List.getElem?_set]
  split
  · rename_i h; subst h; first | rfl | (rw [if_pos hi]; rfl)
  · rfl
theorem agrees_iff {c : MC} {s : MS} {i b : Nat} : agreesM c s i b = true ↔ (memM s i).vo < rndM s b ∧ (rndM s (parM s b) + 1 = rndM s b ∨ passM c s (rndM s b - 1) (rndM s (parM s b)) = true) := by unfold agreesM; exact decide_eq_true_iff
theorem voted_mem {c : MC} {s : MS} {i b j : Nat} (hi : i < s.ms.length) : memM (votedM c s i b) j = if liesB c.L i = false ∧ i = j then ⟨rndM s b, max (memM s i).kn (rndM s (parM s b))⟩ else memM s j := by
  unfold votedM
  cases e : liesB c.L i with
  | true => rw [if_pos rfl, if_neg (by simp)]; rfl
  | false =>
    rw [if_neg (by simp), mem_set hi]
    by_cases q : i = j
    · rw [if_pos q, if_pos ⟨rfl, q⟩]
    · rw [if_neg q, if_neg (fun h => q h.2)]
theorem Chg.mem {c : MC} {s s' : MS} (g : Chg c s s') (hm : s.ms.length = c.n) {j : Nat} (hj : Hon c j) : (memM s j).vo ≤ (memM s' j).vo ∧ (memM s j).kn ≤ (memM s' j).kn := by
  cases g with
  | vote i b hi h0 hb hbit ha =>
    rw [voted_mem (by omega)]
    split
    · rename_i h
      obtain ⟨h1, rfl⟩ := h
      have := (agrees_iff.1 (ha h1)).1
      exact ⟨by dsimp only; omega, by dsimp only; omega⟩
    · exact ⟨Nat.le_refl _, Nat.le_refl _⟩
  | late i r hi hl hr1 hr2 =>
    rw [mem_set (by omega)]
    split
    · rename_i h; subst h; exact ⟨by dsimp only; omega, Nat.le_refl _⟩
    · exact ⟨Nat.le_refl _, Nat.le_refl _⟩
  | learn i b hi hl hb hc =>
    rw [mem_set (by omega)]
    split
    · rename_i h; subst h; exact ⟨Nat.le_refl _, by dsimp only; omega⟩
    · exact ⟨Nat.le_refl _, Nat.le_refl _⟩
  | _ => exact ⟨Nat.le_refl _, Nat.le_refl _⟩
/-- what holds of those that don't lie -/
structure InvM (c : MC) (s : MS) : Prop where
  nv : ∀ b i, Vo s b i → 0 < b ∧ b < s.bl.length
  pc : ∀ b, 0 < b → b < s.bl.length → certM c s (parM s b) = true
  vo : ∀ i b, Hon c i → Vo s b i → rndM s b ≤ (memM s i).vo ∧ rndM s (parM s b) ≤ (memM s i).kn
  ds : ∀ i a b, Hon c i → Vo s a i → Vo s b i → rndM s a = rndM s b → a = b
  lt : ∀ e ∈ s.lt, 1 ≤ e.1.1.val ∧ (Hon c e.1.2.1.val → e.1.1.val ≤ (memM s e.1.2.1.val).vo ∧ ∀ b, Vo s b e.1.2.1.val → rndM s b ≤ e.1.1.val → rndM s (parM s b) ≤ e.1.2.2.val)
  ps : ∀ i b, Hon c i → Vo s b i → rndM s (parM s b) + 1 = rndM s b ∨ passM c s (rndM s b - 1) (rndM s (parM s b)) = true
theorem BdM.par_lt {T : Nat} {c : MC} {s : MS} (h : BdM T c s) {b : Nat} (h0 : 0 < b) (hb : b < s.bl.length) : parM s b < b ∧ rndM s (parM s b) < rndM s b := by
  obtain ⟨x, hx⟩ := get_of_lt hb
  obtain ⟨p, y, h1, h2, h3, h4⟩ := h.par b x h0 hx
  have : parM s b = p := by rw [parM_of hx, h1]; rfl
  rw [this, rndM_of hx, rndM_of h3]
  exact ⟨h2, h4⟩
theorem Chg.rpar {T : Nat} {c : MC} {s s' : MS} (g : Chg c s s') (h : BdM T c s) {b : Nat} (h0 : 0 < b) (hb : b < s.bl.length) : rndM s' (parM s' b) = rndM s (parM s b) := by
  rw [g.par hb, g.rnd (by have := (h.par_lt h0 hb).1; omega)]
theorem Chg.lt_mem {c : MC} {s s' : MS} (g : Chg c s s') {e : (Sm × Sm × Sm) × Int} (he : e ∈ s'.lt) : e ∈ s.lt ∨
    (∃ i r b, s' = ⟨s.bl, s.vt, s.ms, putM s.lt (smN r, smN i, smN (rndM s b)) 1, s.gv⟩ ∧ e.1 = (smN r, smN i, smN (rndM s b)) ∧ i < c.n ∧ liesB c.L i = true ∧ 1 ≤ r ∧ r ≤ 1000) ∨
    (∃ i r, s' = ⟨s.bl, s.vt, s.ms.set i ⟨max (memM s i).vo r, (memM s i).kn⟩, putM s.lt (smN r, smN i, smN (memM s i).kn) 1, putM s.gv (smN i, smN r) (gaveM s.gv i r + 1)⟩ ∧ e.1 = (smN r, smN i, smN (memM s i).kn) ∧ i < c.n ∧ liesB c.L i = false ∧ 1 ≤ r ∧ r ≤ 1000) := by
  cases g with
  | lie i r b hi hl h1 h2 hb hc =>
    rcases mem_putM he with q | q
    · exact .inr (.inl ⟨i, r, b, rfl, by rw [q], hi, hl, h1, h2⟩)
    · exact .inl q.1
  | late i r hi hl h1 h2 =>
    rcases mem_putM he with q | q
    · exact .inr (.inr ⟨i, r, rfl, by rw [q], hi, hl, h1, h2⟩)
    · exact .inl q.1
  | _ => exact .inl he
theorem InvM.chg {T : Nat} {c : MC} {s s' : MS} (h : InvM c s) (bd : BdM T c s) (o : OkM c) (g : Chg c s s') : InvM c s' := by
  have hv := bd.vlen
  have hn7 := o.n7
  have hml := bd.mlen
  refine ⟨?_, ?_, ?_, ?_, ?_, ?_⟩
  · intro b i hb
    have := g.len
    rcases (g.vote_iff hv).1 hb with q | ⟨_, _, _, rfl, rfl, _, h0, h1, _⟩ | q
    · have := h.nv b i q; omega
    · omega
    · exact q.elim
  · intro b h0 hb
    rcases Nat.lt_or_ge b s.bl.length with q | q
    · rw [g.par q]; exact g.cert hv (h.pc b h0 q)
    · refine g.cert hv ?_
      cases g with
      | block p r hp hr hr2 hc h40 =>
        have e : b = s.bl.length := by simp at hb; omega
        have : parM ⟨s.bl ++ [⟨(p : Int), r⟩], s.vt ++ [0], s.ms, s.lt, s.gv⟩ b = p := by
          unfold parM
          dsimp only
          rw [e, List.getElem?_append_right (Nat.le_refl _), Nat.sub_self]; rfl
        rw [this]; exact hc
      | _ => exact absurd hb (Nat.not_lt.2 q)
  · intro i b hi hb
    have hm := g.mem hml hi
    rcases (g.vote_iff hv).1 hb with q | ⟨i', b', rfl, rfl, rfl, hin, h0, h1, h2, h3⟩ | q
    · obtain ⟨h0, h1⟩ := h.nv b i q
      rw [g.rnd h1, g.rpar bd h0 h1]
      have := h.vo i b hi q
      omega
    · rw [g.rnd h1, g.rpar bd h0 h1, voted_mem (by omega), if_pos ⟨hi, rfl⟩]
      exact ⟨Nat.le_refl _, by dsimp only; omega⟩
    · exact q.elim
  · intro i a b hi ha hb hr
    rcases (g.vote_iff hv).1 ha with q | ⟨i', b', rfl, rfl, rfl, hin, h0, h1, h2, h3⟩ | q
    · obtain ⟨k0, k1⟩ := h.nv a i q
      rcases (g.vote_iff hv).1 hb with q' | ⟨i', b', rfl, rfl, rfl, hin, h0, h1, h2, h3⟩ | q'
      · obtain ⟨m0, m1⟩ := h.nv b i q'
        rw [g.rnd k1, g.rnd m1] at hr
        exact h.ds i a b hi q q' hr
      · have h5 := (agrees_iff.1 (h3 hi)).1
        rw [g.rnd k1, g.rnd h1] at hr
        have := (h.vo _ a hi q).1
        omega
      · exact q'.elim
    · have h5 := (agrees_iff.1 (h3 hi)).1
      rcases (g.vote_iff hv).1 hb with q' | ⟨i2, b2, e1, e2, e3, _, _, k1, k2, _⟩ | q'
      · obtain ⟨m0, m1⟩ := h.nv b _ q'
        rw [g.rnd h1, g.rnd m1] at hr
        have := (h.vo _ b hi q').1
        omega
      · subst e2 e3
        exact voted_uniq e1 (by omega) (by omega) k2
      · exact q'.elim
    · exact q.elim
  · intro e he
    rcases g.lt_mem he with q | ⟨i, r, b, rfl, ek, hi, hl, h1, h2⟩ | ⟨i, r, rfl, ek, hi, hl, h1, h2⟩
    · obtain ⟨k1, k2⟩ := h.lt e q
      refine ⟨k1, fun hh => ?_⟩
      obtain ⟨k3, k4⟩ := k2 hh
      have hm := g.mem hml hh
      refine ⟨by omega, fun b hb hr => ?_⟩
      rcases (g.vote_iff hv).1 hb with q' | ⟨i', b', rfl, rfl, rfl, hin, h0, h1, h2, h3⟩ | q'
      · obtain ⟨m0, m1⟩ := h.nv b _ q'
        rw [g.rnd m1] at hr
        rw [g.rpar bd m0 m1]
        exact k4 b q' hr
      · have h5 := (agrees_iff.1 (h3 hh)).1
        rw [g.rnd h1] at hr
        omega
      · exact q'.elim
    · rw [ek]
      dsimp only
      rw [smN_val (by omega), smN_val (by omega)]
      exact ⟨h1, fun hh => by unfold Hon at hh; rw [hl] at hh; cases hh⟩
    · have hk := bd.mem_le i
      rw [ek]
      dsimp only
      rw [smN_val (by omega), smN_val (by omega), smN_val (by omega)]
      refine ⟨h1, fun _ => ?_⟩
      rw [mem_set (by omega), if_pos rfl]
      exact ⟨by dsimp only; omega, fun b hb hr => (h.vo i b hl hb).2⟩
  · intro i b hi hb
    rcases (g.vote_iff hv).1 hb with q | ⟨i', b', rfl, rfl, rfl, hin, h0, h1, h2, h3⟩ | q
    · obtain ⟨m0, m1⟩ := h.nv b i q
      rw [g.rnd m1, g.rpar bd m0 m1]
      rcases h.ps i b hi q with q2 | q2
      · exact .inl q2
      · exact .inr (g.pass q2)
    · rw [g.rnd h1, g.rpar bd h0 h1]
      rcases (agrees_iff.1 (h3 hi)).2 with q2 | q2
      · exact .inl q2
      · exact .inr (g.pass q2)
    · exact q.elim
theorem InvM.start (c : MC) : InvM c (ms0 c.n) := by
  have hv : ∀ b i, ¬ Vo (ms0 c.n) b i := by
    intro b i h
    unfold Vo voteM ms0 at h
    cases b with
    | zero => simp at h
    | succ b => simp at h
  exact ⟨fun b i h => absurd h (hv b i), fun b h0 hb => by simp [ms0] at hb; omega, fun i b _ h => absurd h (hv b i), fun i a b _ h => absurd h (hv a i), fun e he => by simp [ms0] at he, fun i b _ h => absurd h (hv b i)⟩
theorem InvM.run {c : MC} (o : OkM c) : ∀ (l : List Sy) {T : Nat} {s : MS}, BdM T c s → InvM c s → InvM c (stM c s l)
  | [], _, _, _, h => h
  | x :: l, _, s, bd, h => InvM.run o l (bd.chg o (step_chg c s x)) (h.chg bd o (step_chg c s x))
end Go.Proofs.YtfeeociajllbhaaDoor.Mt
