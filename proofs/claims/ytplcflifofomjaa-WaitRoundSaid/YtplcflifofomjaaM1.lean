/- Who is free: the least that is closed. Plain words. No condition. -/
import Derived.Test.YtplcflifofomjaaD1
namespace Go.Proofs.Ytplcflifofomjaa
open Go.RowKit
set_option linter.unusedVariables false
set_option linter.unusedSimpArgs false
set_option maxRecDepth 100000

/-! who is free: the least that is closed -/
def condP (S : Nat → Prop) (x : Nd) : Prop := (x.all = true ∧ ∀ k ∈ x.fr, S k.toNat) ∨ (x.all = false ∧ ∃ k ∈ x.fr, S k.toNat)
def onF (f : List Bool) (i : Nat) : Prop := f.getD i false = true
theorem condN_iff {f : List Bool} {x : Nd} : condN f x = true ↔ condP (onF f) x := by
  unfold condN condP onF
  cases x.all
  · simp [List.any_eq_true]
  · simp [List.any_eq_false]
theorem getD_setB {f : List Bool} {i j : Nat} {b : Bool} : (f.set i b).getD j false = if i = j ∧ i < f.length then b else f.getD j false := by
  rw [List.getD_eq_getElem?_getD, List.getD_eq_getElem?_getD, List.getElem?_set]
  by_cases e : i = j
  · subst e
    by_cases h : i < f.length
    · simp [h]
    · simp [h]
  · simp [e]
theorem stepN_on {f : List Bool} {x : Nd} {j : Nat} (h : onF f j) : onF (stepN f x) j := by
  unfold stepN onF at *
  split
  · rw [getD_setB]; split
    · rfl
    · exact h
  · exact h
theorem passN_on : ∀ {l : List Nd} {f : List Bool} {j : Nat}, onF f j → onF (passN l f) j
  | [], _, _, h => h
  | x :: l, f, j, h => passN_on (l := l) (f := stepN f x) (stepN_on h)
def offs (f : List Bool) : Nat := f.countP (fun b => !b)
theorem offs_set : ∀ {f : List Bool} {i : Nat}, f.set i true = f ∨ offs (f.set i true) + 1 = offs f
  | [], _ => .inl rfl
  | b :: f, 0 => by
    cases b
    · right; simp [offs]
    · left; rfl
  | b :: f, i + 1 => by
    rcases offs_set (f := f) (i := i) with h | h
    · left; rw [List.set_cons_succ, h]
    · right; rw [List.set_cons_succ]; unfold offs at *; rw [List.countP_cons, List.countP_cons]; omega
theorem offs_step (f : List Bool) (x : Nd) : stepN f x = f ∨ offs (stepN f x) + 1 = offs f := by
  unfold stepN; split
  · exact offs_set
  · exact .inl rfl
theorem offs_pass : ∀ (l : List Nd) (f : List Bool), (passN l f = f ∧ ∀ x ∈ l, stepN f x = f) ∨ offs (passN l f) + 1 ≤ offs f
  | [], f => .inl ⟨rfl, fun x hx => by cases hx⟩
  | x :: l, f => by
    have e : passN (x :: l) f = passN l (stepN f x) := rfl
    rw [e]
    rcases offs_step f x with h | h
    · rw [h]
      rcases offs_pass l f with ⟨h1, h2⟩ | h1
      · exact .inl ⟨h1, fun y hy => by
          rcases List.mem_cons.1 hy with rfl | hy
          · exact h
          · exact h2 y hy⟩
      · exact .inr h1
    · rcases offs_pass l (stepN f x) with ⟨h1, _⟩ | h1
      · right; rw [h1]; omega
      · right; omega
theorem offs_le (f : List Bool) : offs f ≤ f.length := List.countP_le_length
theorem offs_round (l : List Nd) (f : List Bool) : ∀ r, (∀ x ∈ l, stepN (roundN l r f) x = roundN l r f) ∨ offs (roundN l r f) + r ≤ f.length
  | 0 => .inr (offs_le f)
  | r + 1 => by
    rcases offs_round l f r with h | h
    · left
      rcases offs_pass l (roundN l r f) with ⟨h1, _⟩ | h1
      · rw [roundN, h1]; exact h
      · exfalso
        have : ∀ (l' : List Nd) (g : List Bool), (∀ x ∈ l', stepN g x = g) → passN l' g = g := fun l' => by
          induction l' with
          | nil => intro g _; rfl
          | cons y l' ih =>
            intro g hg
            show passN l' (stepN g y) = g
            rw [hg y (by simp)]; exact ih g fun z hz => hg z (by simp [hz])
        rw [this l _ h] at h1; omega
    · rcases offs_pass l (roundN l r f) with ⟨h1, h2⟩ | h1
      · left; rw [roundN, h1]; exact h2
      · right; rw [roundN]; omega
theorem offs_zero : ∀ {f : List Bool}, offs f = 0 → ∀ i, f.set i true = f := fun {f} h i => by
  rcases offs_set (f := f) (i := i) with h1 | h1
  · exact h1
  · omega
theorem free_still {n : Nat} (l : List Nd) : ∀ x ∈ l, stepN (freeN n l) x = freeN n l := by
  have hl : (f0N l (List.replicate n true)).length = n := by rw [f0N_len, List.length_replicate]
  rcases offs_round l (f0N l (List.replicate n true)) n with h | h
  · exact h
  · have h0 : offs (freeN n l) = 0 := by unfold freeN; omega
    intro x _
    unfold stepN; split
    · exact offs_zero h0 _
    · rfl
theorem freeN_len (n : Nat) (l : List Nd) : (freeN n l).length = n := by unfold freeN; rw [roundN_len, f0N_len, List.length_replicate]
abbrev isF (n : Nat) (l : List Nd) : Nat → Prop := onF (freeN n l)
theorem isF_lt {n i : Nat} {l : List Nd} (h : isF n l i) : i < n := by
  unfold isF onF at h
  rw [List.getD_eq_getElem?_getD] at h
  cases e : (freeN n l)[i]? with
  | none => rw [e] at h; cases h
  | some b => have := (List.getElem?_eq_some_iff.1 e).1; rw [freeN_len] at this; exact this
theorem f0N_on : ∀ {l : List Nd} {f : List Bool} {j : Nat}, onF (f0N l f) j ↔ onF f j ∧ ∀ x ∈ l, x.who.toNat ≠ j
  | [], f, j => ⟨fun h => ⟨h, fun x hx => by cases hx⟩, fun h => h.1⟩
  | x :: l, f, j => by
    have e : f0N (x :: l) f = f0N l (f.set x.who.toNat false) := rfl
    rw [e, f0N_on (l := l)]
    unfold onF
    rw [getD_setB]
    constructor
    · rintro ⟨h1, h2⟩
      split at h1
      · cases h1
      · rename_i hne
        refine ⟨h1, fun y hy => ?_⟩
        rcases List.mem_cons.1 hy with rfl | hy
        · intro e
          refine hne ⟨e, ?_⟩
          rw [e]
          rw [List.getD_eq_getElem?_getD] at h1
          cases e2 : f[j]? with
          | none => rw [e2] at h1; cases h1
          | some b => exact (List.getElem?_eq_some_iff.1 e2).1
        · exact h2 y hy
    · rintro ⟨h1, h2⟩
      refine ⟨?_, fun y hy => h2 y (by simp [hy])⟩
      rw [if_neg fun h => h2 x (by simp) h.1]; exact h1
theorem free_closed {n : Nat} {l : List Nd} (hk : OkN (n : Int) l) {x : Nd} (hx : x ∈ l) (hc : condP (isF n l) x) : isF n l x.who.toNat := by
  have h1 := free_still (n := n) l x hx
  have h2 := condN_iff.2 hc
  unfold stepN at h1
  rw [if_pos h2] at h1
  have h3 : ((freeN n l).set x.who.toNat true).getD x.who.toNat false = true := by
    rw [getD_setB, if_pos ⟨rfl, by rw [freeN_len]; have h4 := (hk.el x hx).w0; have h5 := (hk.el x hx).w1; omega⟩]
  rw [h1] at h3; exact h3
theorem round_on {l : List Nd} {f : List Bool} {j : Nat} (h : onF f j) : ∀ r, onF (roundN l r f) j
  | 0 => h
  | r + 1 => passN_on (round_on h r)
theorem free_none {n i : Nat} {l : List Nd} (hi : i < n) (h : ∀ x ∈ l, x.who.toNat ≠ i) : isF n l i :=
  round_on (f0N_on.2 ⟨by unfold onF; rw [List.getD_eq_getElem?_getD, List.getElem?_replicate, if_pos hi]; rfl, h⟩) n
theorem free_least {n : Nat} {l : List Nd} {S : Nat → Prop} (hS : ∀ x ∈ l, condP S x → S x.who.toNat) (h0 : ∀ i, i < n → (∀ x ∈ l, x.who.toNat ≠ i) → S i) {i : Nat} (h : isF n l i) : S i := by
  have mono : ∀ {f : List Bool} {x : Nd}, (∀ j, onF f j → S j) → condP (onF f) x → condP S x := fun {f x} hf hc => by
    rcases hc with ⟨h1, h2⟩ | ⟨h1, k, h2, h3⟩
    · exact .inl ⟨h1, fun k hk => hf _ (h2 k hk)⟩
    · exact .inr ⟨h1, k, h2, hf _ h3⟩
  have step : ∀ {f : List Bool} {x : Nd}, x ∈ l → (∀ j, onF f j → S j) → ∀ j, onF (stepN f x) j → S j := fun {f x} hx hf j hj => by
    unfold stepN at hj
    split at hj
    · rename_i hc
      unfold onF at hj
      rw [getD_setB] at hj
      split at hj
      · rename_i e; rw [← e.1]; exact hS x hx (mono hf (condN_iff.1 hc))
      · exact hf j hj
    · exact hf j hj
  have pass : ∀ (l' : List Nd), (∀ x ∈ l', x ∈ l) → ∀ {f : List Bool}, (∀ j, onF f j → S j) → ∀ j, onF (passN l' f) j → S j := fun l' => by
    induction l' with
    | nil => intro _ f hf j hj; exact hf j hj
    | cons x l' ih =>
      intro hl f hf j hj
      exact ih (fun y hy => hl y (by simp [hy])) (step (hl x (by simp)) hf) j hj
  have round : ∀ r j, onF (roundN l r (f0N l (List.replicate n true))) j → S j := fun r => by
    induction r with
    | zero =>
      intro j hj
      obtain ⟨h1, h2⟩ := f0N_on.1 hj
      refine h0 j ?_ h2
      unfold onF at h1
      rw [List.getD_eq_getElem?_getD, List.getElem?_replicate] at h1
      split at h1
      · assumption
      · cases h1
    | succ r ih => exact pass l (fun x hx => hx) ih
  exact round n i h
theorem stkU_mem {f : List Bool} : ∀ {k i : Nat}, i ∈ stkU f k ↔ i < k ∧ ¬ onF f i
  | 0, i => by simp [stkU]
  | k + 1, i => by
    rw [stkU, List.mem_append, stkU_mem (k := k)]
    unfold onF
    cases e : f.getD k false
    · simp only [Bool.false_eq_true, if_false, List.mem_singleton]
      constructor
      · rintro (⟨h1, h2⟩ | rfl)
        · exact ⟨by omega, h2⟩
        · exact ⟨by omega, by rw [e]; decide⟩
      · rintro ⟨h1, h2⟩
        by_cases c : i = k
        · exact .inr c
        · exact .inl ⟨by omega, h2⟩
    · simp only [if_true, List.not_mem_nil, or_false]
      constructor
      · rintro ⟨h1, h2⟩; exact ⟨by omega, h2⟩
      · rintro ⟨h1, h2⟩
        refine ⟨?_, h2⟩
        by_cases c : i = k
        · subst c; exact absurd e h2
        · omega
theorem stkU_nodup {f : List Bool} : ∀ k, (stkU f k).Nodup
  | 0 => List.nodup_nil
  | k + 1 => by
    rw [stkU]
    split
    · rw [List.append_nil]; exact stkU_nodup k
    · rw [List.nodup_append]
      exact ⟨stkU_nodup k, by simp, fun a ha b hb e => by
        rw [List.mem_singleton] at hb; subst hb; subst e
        have := (stkU_mem.1 ha).1; omega⟩
theorem stuck_mem {n i : Nat} {l : List Nd} : i ∈ stuckN n l ↔ i < n ∧ ¬ isF n l i := stkU_mem
theorem OkN.who_inj {n : Int} {l : List Nd} (hk : OkN n l) {x y : Nd} (hx : x ∈ l) (hy : y ∈ l) (e : x.who = y.who) : x = y := by
  obtain ⟨i, hi⟩ := List.getElem?_of_mem hx
  obtain ⟨j, hj⟩ := List.getElem?_of_mem hy
  obtain ⟨i1, i2⟩ := List.getElem?_eq_some_iff.1 hi
  obtain ⟨j1, j2⟩ := List.getElem?_eq_some_iff.1 hj
  rcases Nat.lt_trichotomy i j with c | c | c
  · exact absurd (by rw [i2, j2]; exact e) ((List.pairwise_iff_getElem.1 hk.dist) i j i1 j1 c)
  · subst c; rw [hi] at hj; cases hj; rfl
  · exact absurd (by rw [i2, j2]; exact e.symm) ((List.pairwise_iff_getElem.1 hk.dist) j i j1 i1 c)
theorem OkN.who_inj' {n : Int} {l : List Nd} (hk : OkN n l) {x y : Nd} (hx : x ∈ l) (hy : y ∈ l) (e : x.who.toNat = y.who.toNat) : x = y :=
  hk.who_inj hx hy (by have h1 := (hk.el x hx).w0; have h2 := (hk.el y hy).w0; omega)
/-- without the last need -/
theorem OkN.init {n : Int} {l : List Nd} {x : Nd} (hk : OkN n (l ++ [x])) : OkN n l :=
  ⟨hk.n1, hk.n12, by have := hk.len; rw [List.length_append] at this; simp at this; omega, fun y hy => hk.el y (List.mem_append_left _ hy), (List.pairwise_append.1 hk.dist).1⟩
theorem more_sub {n i : Nat} {l : List Nd} {x : Nd} (hk : OkN (n : Int) (l ++ [x])) (h : i ∈ stuckN n l) : i ∈ stuckN n (l ++ [x]) := by
  rw [stuck_mem] at *
  refine ⟨h.1, fun hf => h.2 ?_⟩
  have hx := hk.el x (by simp)
  refine free_least (l := l ++ [x]) (S := isF n l) (fun y hy hc => ?_) (fun j hj hno => free_none hj fun y hy => hno y (List.mem_append_left _ hy)) hf
  rcases List.mem_append.1 hy with q | q
  · exact free_closed hk.init q hc
  · rw [List.mem_singleton] at q; subst q
    have h1 := hx.w0; have h2 := hx.w1
    exact free_none (by omega) fun z hz e => by
      have := hk.who_inj' (List.mem_append_left _ hz) (by simp : y ∈ l ++ [y]) e
      subst this
      exact (List.pairwise_append.1 hk.dist).2.2 z hz z (by simp) rfl
theorem more_last {n : Nat} {l : List Nd} {x : Nd} (hk : OkN (n : Int) (l ++ [x])) : x.who.toNat ∉ stuckN n l := fun h => by
  rw [stuck_mem] at h
  have hx := hk.el x (by simp)
  refine h.2 (free_none h.1 fun z hz e => ?_)
  have := hk.who_inj' (List.mem_append_left _ hz) (by simp : x ∈ l ++ [x]) e
  subst this
  exact (List.pairwise_append.1 hk.dist).2.2 z hz z (by simp) rfl
theorem stuck_need {n i : Nat} {l : List Nd} (h : i ∈ stuckN n l) : ∃ x ∈ l, x.who.toNat = i := by
  rw [stuck_mem] at h
  refine Classical.byContradiction fun hno => h.2 (free_none h.1 fun x hx e => hno ⟨x, hx, e⟩)
theorem empty_stuck {n : Nat} {l : List Nd} {x : Nd} (hk : OkN (n : Int) l) (hx : x ∈ l) (h0 : x.fr = []) (ha : x.all = false) : x.who.toNat ∈ stuckN n l := by
  have h1 := (hk.el x hx).w0; have h2 := (hk.el x hx).w1
  rw [stuck_mem]
  refine ⟨by omega, fun hf => ?_⟩
  have : x.who.toNat ≠ x.who.toNat := free_least (S := fun i => i ≠ x.who.toNat) (fun y hy hc e => ?_) (fun i _ hno e => hno x hx e.symm) hf
  · exact this rfl
  · have := hk.who_inj' hy hx e
    subst this
    rcases hc with ⟨h3, _⟩ | ⟨_, k, h3, _⟩
    · rw [ha] at h3; cases h3
    · rw [h0] at h3; cases h3
end Go.Proofs.Ytplcflifofomjaa
