/- Runs. Plain words. No condition. -/
import Derived.Test.YtfeeociajllbhaaDoorMM3
import Derived.Test.YtfeeociajllbhaaDoorW2
namespace Go.Proofs.YtfeeociajllbhaaDoor.Mt
open Go.RowKit
set_option linter.unusedVariables false
set_option linter.unusedSimpArgs false
set_option maxRecDepth 100000

/-- what a script leaves -/
theorem run_keep {c : MC} (o : OkM c) : ∀ (l : List Sy) {T : Nat} {s : MS}, BdM T c s → s.bl.length ≤ (stM c s l).bl.length ∧ (∀ b, b < s.bl.length → (stM c s l).bl[b]? = s.bl[b]?) ∧ (∀ b, certM c s b = true → certM c (stM c s l) b = true)
  | [], _, _, _ => ⟨Nat.le_refl _, fun _ _ => rfl, fun _ h => h⟩
  | x :: l, T, s, bd => by
    have g := step_chg c s x
    obtain ⟨h1, h2, h3⟩ := run_keep o l (bd.chg o g)
    have h4 := g.len
    exact ⟨by simp only [stM]; omega, fun b hb => by simp only [stM]; rw [h2 b (by omega)]; exact g.bl hb, fun b hb => by simp only [stM]; exact h3 b (g.cert bd.vlen hb)⟩
theorem anc_up {l l' : List (Int × Int)} {n : Nat} (h : Chn.OkC l) (hn : n = l.length) (he : ∀ b, b < n → l'[b]? = l[b]?) {a b : Nat} (ha : Chn.Anc l a b) (hb : b < n) : Chn.Anc l' a b := by
  induction ha with
  | self => exact .self _
  | step h0 h1 ih =>
    rename_i b
    have := h.prlt h0 (by omega)
    have e : Chn.pr l' b = Chn.pr l b := by unfold Chn.pr; rw [he b hb]
    exact .step h0 (by rw [e]; exact ih (by omega))
theorem dec_up {c : MC} {s s' : MS} {T : Nat} (bd : BdM T c s) (hl : s.bl.length ≤ s'.bl.length) (he : ∀ b, b < s.bl.length → s'.bl[b]? = s.bl[b]?) (hc : ∀ b, certM c s b = true → certM c s' b = true) {k b : Nat} (hk : k < s.bl.length) (h : Chn.DecBy (blsP s.bl) (certL c s) k b) : Chn.DecBy (blsP s'.bl) (certL c s') k b := by
  obtain ⟨h0, h1, h2, ⟨x, y, h3, h4, h5⟩, h6⟩ := h
  have he' : ∀ b, b < s.bl.length → (blsP s'.bl)[b]? = (blsP s.bl)[b]? := fun b hb => by rw [List.getElem?_map, List.getElem?_map, he b hb]
  have e : Chn.pr (blsP s'.bl) k = Chn.pr (blsP s.bl) k := by unfold Chn.pr; rw [he' k hk]
  have hp := bd.okc.prlt h0 (show k < (blsP s.bl).length by rw [List.length_map]; exact hk)
  have hp2 : Chn.pr (blsP s.bl) k < s.bl.length := by omega
  refine ⟨h0, on_cert.2 ⟨by omega, hc _ (on_cert.1 h1).2⟩, ?_, ⟨x, y, by rw [he' k hk]; exact h3, ?_, h5⟩, ?_⟩
  · rw [e]; exact on_cert.2 ⟨by omega, hc _ (on_cert.1 h2).2⟩
  · rw [e, he' _ hp2]; exact h4
  · rw [e]; exact anc_up bd.okc (List.length_map _).symm (fun b hb => he' b hb) h6 hp2
/-- votes, one by one -/
theorem step_vote (c : MC) (s : MS) (x : Sy) (T : Nat) (bd : BdM T c s) (o : OkM c) :
    (x.kind = 2 ∧ (stepM c s x).1 = 0 ∧ ∃ i b : Nat, x.who = i ∧ x.blk = b ∧ i < c.n ∧ 0 < b ∧ b < s.bl.length ∧ (voteM s b).testBit i = false ∧ (liesB c.L i = false → agreesM c s i b = true) ∧ (stepM c s x).2 = votedM c s i b) ∨
    (¬ (x.kind = 2 ∧ (stepM c s x).1 = 0) ∧ ∀ b, voteM (stepM c s x).2 b = voteM s b) := by
  by_cases h : x.kind = 2 ∧ (stepM c s x).1 = 0
  · left
    refine ⟨h.1, h.2, ?_⟩
    obtain ⟨hk, hc⟩ := h
    obtain ⟨kind, who, blk, rnd, hi⟩ := x
    dsimp only at hk
    subst hk
    unfold stepM at hc ⊢
    rw [if_neg (by dsimp only; omega), if_neg (by dsimp only; omega)] at hc ⊢
    dsimp only at hc ⊢
    split at hc
    · cases hc
    rename_i hw
    rw [if_neg hw, if_pos rfl]
    rw [if_pos rfl] at hc
    obtain ⟨i, rfl, hi9⟩ := isN_nat hw
    simp only [Int.toNat_natCast] at hc ⊢
    unfold voteStep at hc ⊢
    split at hc
    · cases hc
    rename_i h1
    rw [if_neg h1]
    split at hc
    · cases hc
    rename_i h2
    rw [if_neg h2]
    simp only [not_or] at h1
    obtain ⟨k, rfl, hk⟩ := isN_nat h1.1
    simp only [Int.toNat_natCast] at h2 ⊢
    simp only [not_or, not_and] at h2
    exact ⟨i, k, rfl, rfl, hi9, by omega, hk, by cases e : (voteM s k).testBit i <;> simp_all, fun hl => not_false' (h2.2 hl), rfl⟩
  · right
    refine ⟨h, ?_⟩
    have g := step_chg c s x
    obtain ⟨kind, who, blk, rnd, hi⟩ := x
    unfold stepM at h ⊢
    dsimp only at h ⊢
    split
    · intro b; rfl
    rename_i k1
    split
    · rename_i k2
      unfold behindM
      dsimp only
      split
      · intro b; rfl
      split
      · intro b; rfl
      split
      · intro b; rfl
      · intro b; exact vote_app _ _ _ _ b
    rename_i k2
    split
    · intro b; rfl
    rename_i k3
    rw [if_neg k1, if_neg k2, if_neg k3] at h
    split
    · rename_i k4
      rw [if_pos k4] at h
      unfold voteStep at h ⊢
      split
      · intro b; rfl
      rename_i k5
      split
      · intro b; rfl
      rename_i k6
      rw [if_neg k5, if_neg k6] at h
      exact absurd ⟨k4, rfl⟩ h
    split
    · unfold lateM
      dsimp only
      split
      · intro b; rfl
      split
      · split <;> (intro b; rfl)
      split <;> (intro b; rfl)
    · unfold learnM
      split
      · intro b; rfl
      split
      · intro b; rfl
      · intro b; rfl
theorem filter_one {l : List Nat} {p q : Nat → Bool} {i : Nat} (hn : l.Nodup) (hi : i ∈ l) (hp : p i = false) (hq : ∀ j, q j = (p j || decide (i = j))) : (l.filter q).length = (l.filter p).length + 1 := by
  induction l with
  | nil => cases hi
  | cons a l ih =>
    obtain ⟨h1, h2⟩ := List.nodup_cons.1 hn
    have hqa := hq a
    by_cases e : i = a
    · subst e
      have : l.filter q = l.filter p := List.filter_congr fun j hj => by
        rw [hq j, decide_eq_false (fun e : i = j => h1 (e ▸ hj)), Bool.or_false]
      rw [List.filter_cons_of_pos (by rw [hqa]; simp), List.filter_cons_of_neg (by simp [hp]), List.length_cons, this]
    · have hi' : i ∈ l := by
        rcases List.mem_cons.1 hi with q | q
        · exact absurd q e
        · exact q
      have ih' := ih h2 hi'
      have : q a = p a := by rw [hqa, decide_eq_false e, Bool.or_false]
      cases e2 : p a
      · rw [List.filter_cons_of_neg (by rw [this, e2]; simp), List.filter_cons_of_neg (by rw [e2]; simp)]; exact ih'
      · rw [List.filter_cons_of_pos (by rw [this, e2]), List.filter_cons_of_pos e2, List.length_cons, List.length_cons, ih']
theorem pop_add {x i : Nat} (hi : i < 32) (hb : x.testBit i = false) : pop (x ||| 2 ^ i) = pop x + 1 :=
  filter_one List.nodup_range (List.mem_range.2 hi) hb fun j => bit_or
theorem codes_at {c : MC} : ∀ (l : List Sy) (s : MS) {i : Nat} {x : Sy}, l[i]? = some x → (codesM c s l)[i]? = some (stepM c (stM c s (l.take i)) x).1
  | [], _, _, _, h => by cases h
  | y :: l, s, 0, x, h => by cases h; rfl
  | y :: l, s, i + 1, x, h => by
    show (codesM c (stepM c s y).2 l)[i]? = _
    rw [codes_at l _ h]; rfl
/-- the votes of the first i steps -/
def popL (c : MC) (n : Nat) (s : MS) : List Int := (List.range n).map fun b => ((pop (voteM s b) : Nat) : Int)
theorem popL_at {c : MC} {n b : Nat} {s : MS} (h : b < n) : (popL c n s)[b]? = some ((pop (voteM s b) : Nat) : Int) := by unfold popL; rw [List.getElem?_map, List.getElem?_range h]; rfl
theorem popL_len (c : MC) (n : Nat) (s : MS) : (popL c n s).length = n := by unfold popL; rw [List.length_map, List.length_range]
theorem popL_same {c : MC} {n : Nat} {s s' : MS} (h : ∀ b, voteM s' b = voteM s b) : popL c n s' = popL c n s := by unfold popL; simp only [h]
theorem popL_voted {c : MC} {n i b : Nat} {s : MS} (hb : b < s.vt.length) (hi : i < 32) (hbit : (voteM s b).testBit i = false) : popL c n (votedM c s i b) = (popL c n s).set b (((pop (voteM s b) : Nat) : Int) + 1) := by
  refine List.ext_getElem? fun j => ?_
  rcases Nat.lt_or_ge j n with h | h
  · rw [popL_at h, List.getElem?_set, vote_voted hb]
    split
    · rename_i e
      subst e
      rw [if_pos (by rw [popL_len]; exact h), pop_add hi hbit]; rfl
    · rw [popL_at h]
  · rw [List.getElem?_eq_none (by rw [popL_len]; exact h), List.getElem?_eq_none (by rw [List.length_set, popL_len]; exact h)]
theorem popL_zero (c : MC) (n : Nat) : popL c n (ms0 c.n) = List.replicate n 0 := by
  refine List.ext_getElem? fun j => ?_
  rcases Nat.lt_or_ge j n with h | h
  · rw [popL_at h, List.getElem?_replicate, if_pos h]
    have : voteM (ms0 c.n) j = 0 := by
      unfold voteM ms0
      cases j <;> rfl
    rw [this]; rfl
  · rw [List.getElem?_eq_none (by rw [popL_len]; exact h), List.getElem?_eq_none (by rw [List.length_replicate]; exact h)]
/-- up to which rounds those that don't lie have voted -/
def LastOk (c : MC) (s : MS) (xs : List Int) : Prop := ∀ i v, xs[i]? = some v → Hon c i → v ≤ (((memM s i).vo : Nat) : Int)
theorem LastOk.chg {c : MC} {s s' : MS} {xs : List Int} (h : LastOk c s xs) (g : Chg c s s') (hm : s.ms.length = c.n) : LastOk c s' xs := fun i v hv hi => by
  have h1 := h i v hv hi
  have h2 := (g.mem hm hi).1
  omega
theorem LastOk.set {c : MC} {s : MS} {xs : List Int} {i b : Nat} (h : LastOk c s xs) (g : Chg c s (votedM c s i b)) (hm : s.ms.length = c.n) (hin : i < c.n) (hl : Hon c i) : LastOk c (votedM c s i b) (xs.set i ((rndM s b : Nat) : Int)) := fun j v hv hj => by
  rw [List.getElem?_set] at hv
  split at hv
  · rename_i e
    subst e
    split at hv
    · cases hv
      rw [voted_mem (by omega), if_pos ⟨hl, rfl⟩]
      exact Int.le_refl _
    · cases hv
  · exact h.chg g hm j v hv hj
theorem cert_val {c : MC} {s : MS} {b : Nat} {y : Bool} (h : (certL c s)[b]? = some y) (h0 : 0 < b) : y = decide (((c.need : Nat) : Int) ≤ ((pop (voteM s b) : Nat) : Int)) := by
  unfold certL at h
  rw [List.getElem?_map] at h
  cases e : (List.range s.bl.length)[b]? with
  | none => rw [e] at h; cases h
  | some k =>
    rw [e] at h
    have hk : k = b := by
      obtain ⟨h1, h2⟩ := List.getElem?_eq_some_iff.1 e
      rw [List.getElem_range] at h2; exact h2.symm
    subst hk
    cases h
    unfold certM
    rw [decide_eq_decide]
    omega
theorem cert_zero {c : MC} {s : MS} {y : Bool} (h : (certL c s)[0]? = some y) : y = true := by
  cases y with
  | true => rfl
  | false =>
    exfalso
    have hl := (List.getElem?_eq_some_iff.1 h).1
    unfold certL at hl
    rw [List.length_map, List.length_range] at hl
    have : (certL c s)[0]? = some true := (on_cert (b := 0)).2 ⟨hl, by unfold certM; exact decide_eq_true (.inl rfl)⟩
    rw [this] at h; cases h
end Go.Proofs.YtfeeociajllbhaaDoor.Mt
