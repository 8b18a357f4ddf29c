/- Sets as masks: what meets each, at least. In plain words. No condition. -/
import Derived.Test.YtpjkpnfelpfhaaaA2
namespace Go.Proofs.Ytpjkpnfelpfhaaa
open Go.RowKit
set_option linter.unusedVariables false
set_option linter.unusedSimpArgs false
set_option maxRecDepth 100000

/-! sets as masks -/
theorem ssub_iff {b a : Nat} : ssub b a = true ↔ b ≠ a ∧ b &&& a = b := by unfold ssub; exact decide_eq_true_iff
theorem ssub_no {b a : Nat} : ssub b a = false ↔ ¬ (b ≠ a ∧ b &&& a = b) := by unfold ssub; exact decide_eq_false_iff_not
theorem in_trans {a b c : Nat} (h : a &&& b = a) (h2 : b &&& c = b) : a &&& c = a := by rw [← h, Nat.and_assoc, h2]
theorem in_le {a b : Nat} (h : a &&& b = a) : a ≤ b := by rw [← h]; exact Nat.and_le_right
theorem in_iff {a b : Nat} : a &&& b = a ↔ ∀ i, a.testBit i = true → b.testBit i = true := by
  constructor
  · intro h i hi; rw [← h, Nat.testBit_and] at hi; simp at hi; exact hi.2
  · intro h
    refine Nat.eq_of_testBit_eq fun i => ?_
    rw [Nat.testBit_and]
    cases q : a.testBit i with
    | false => rfl
    | true => rw [h i q]; rfl
theorem or_in {a b : Nat} : a ||| b = b ↔ a &&& b = a := by
  rw [in_iff]
  constructor
  · intro h i hi; rw [← h, Nat.testBit_or, hi]; rfl
  · intro h
    refine Nat.eq_of_testBit_eq fun i => ?_
    rw [Nat.testBit_or]
    cases q : a.testBit i with
    | false => rfl
    | true => rw [h i q]; rfl
theorem bit_of {a : Nat} (h : a ≠ 0) : ∃ i, a.testBit i = true := Classical.byContradiction fun q => h (Nat.eq_of_testBit_eq fun i => by
  rw [Nat.zero_testBit]
  cases e : a.testBit i with
  | false => rfl
  | true => exact absurd ⟨i, e⟩ q)
theorem meet_iff {a b : Nat} : a &&& b ≠ 0 ↔ ∃ i, a.testBit i = true ∧ b.testBit i = true := by
  constructor
  · intro h
    obtain ⟨i, hi⟩ := bit_of h
    rw [Nat.testBit_and, Bool.and_eq_true] at hi
    exact ⟨i, hi⟩
  · rintro ⟨i, h1, h2⟩ h
    have : (a &&& b).testBit i = true := by rw [Nat.testBit_and, h1, h2]; rfl
    rw [h, Nat.zero_testBit] at this; cases this
theorem meet_in {a b c : Nat} (h : a &&& b ≠ 0) (hb : b &&& c = b) : a &&& c ≠ 0 := by
  obtain ⟨i, h1, h2⟩ := meet_iff.1 h
  exact meet_iff.2 ⟨i, h1, in_iff.1 hb i h2⟩
/-- meets each -/
def Hit (A : List Nat) (b : Nat) : Prop := ∀ a ∈ A, a &&& b ≠ 0
theorem Hit.in_ {A : List Nat} {b c : Nat} (h : Hit A b) (hb : b &&& c = b) : Hit A c := fun a ha => meet_in (h a ha) hb
/-- what meets each, at least, in order -/
structure IsBlk (A bl : List Nat) : Prop where
  up : bl.Pairwise (· < ·)
  mem : ∀ b, b ∈ bl ↔ Hit A b ∧ ∀ c, ssub c b = true → ¬ Hit A c
theorem IsBlk.uniq {A l m : List Nat} (h : IsBlk A l) (h' : IsBlk A m) : l = m := up_uniq h.up h'.up fun a => by rw [h.mem, h'.mem]
/-- below each that is such stands a least one -/
theorem min_below (P : Nat → Prop) : ∀ (n b : Nat), b ≤ n → P b → ∃ c, c &&& b = c ∧ P c ∧ ∀ d, ssub d c = true → ¬ P d
  | 0, b, h, hp => ⟨b, Nat.and_self b, hp, fun d hd => by
    obtain ⟨h1, h2⟩ := ssub_iff.1 hd
    have := in_le h2
    omega⟩
  | n + 1, b, h, hp => by
    by_cases q : ∃ d, ssub d b = true ∧ P d
    · obtain ⟨d, h1, h2⟩ := q
      obtain ⟨h3, h4⟩ := ssub_iff.1 h1
      have := in_le h4
      obtain ⟨c, c1, c2, c3⟩ := min_below P n d (by omega) h2
      exact ⟨c, in_trans c1 h4, c2, c3⟩
    · exact ⟨b, Nat.and_self b, hp, fun d hd hpd => q ⟨d, hd, hpd⟩⟩
theorem IsBlk.below {A bl : List Nat} (h : IsBlk A bl) {b : Nat} (hb : Hit A b) : ∃ c ∈ bl, c &&& b = c := by
  obtain ⟨c, c1, c2, c3⟩ := min_below (Hit A) b b (Nat.le_refl _) hb
  exact ⟨c, (h.mem c).2 ⟨c2, c3⟩, c1⟩
theorem IsLeast.below {q ls : List Nat} (h : IsLeast q ls) {w : Nat} (hw : w ∈ q) : ∃ a ∈ ls, a &&& w = a := by
  obtain ⟨c, c1, c2, c3⟩ := min_below (· ∈ q) w w (Nat.le_refl _) hw
  exact ⟨c, (h.mem c).2 ⟨c2, fun b hb => by
    cases e : ssub b c with
    | false => rfl
    | true => exact absurd hb (c3 b e)⟩, c1⟩
theorem IsLeast.hit {q ls : List Nat} (h : IsLeast q ls) (b : Nat) : Hit ls b ↔ Hit q b := by
  constructor
  · intro g w hw
    obtain ⟨a, ha, haw⟩ := h.below hw
    obtain ⟨i, h1, h2⟩ := meet_iff.1 (g a ha)
    exact meet_iff.2 ⟨i, in_iff.1 haw i h1, h2⟩
  · intro g a ha; exact g a ((h.mem a).1 ha).1
theorem IsBlk.of_hit {A B bl : List Nat} (h : IsBlk A bl) (e : ∀ b, Hit A b ↔ Hit B b) : IsBlk B bl := ⟨h.up, fun b => by
  rw [h.mem, e]
  exact ⟨fun ⟨h1, h2⟩ => ⟨h1, fun c hc hb => h2 c hc ((e c).2 hb)⟩, fun ⟨h1, h2⟩ => ⟨h1, fun c hc hb => h2 c hc ((e c).1 hb)⟩⟩⟩
theorem blk_nil : IsBlk [] [0] := ⟨by simp, fun b => by
  simp only [List.mem_singleton]
  constructor
  · rintro rfl
    refine ⟨fun a ha => by (cases ha), fun c hc => ?_⟩
    obtain ⟨h1, h2⟩ := ssub_iff.1 hc
    exact absurd (by rw [← h2]; exact Nat.and_zero c) h1
  · rintro ⟨_, h2⟩
    refine Classical.byContradiction fun hb => h2 0 (ssub_iff.2 ⟨fun e => hb e.symm, Nat.zero_and b⟩) fun a ha => by (cases ha)⟩
/-- the next list -/
def Nx (l : List Nat) (a c : Nat) : Prop := ∃ b ∈ l, (a &&& b ≠ 0 ∧ c = b) ∨ (a &&& b = 0 ∧ ∃ i, a.testBit i = true ∧ c = b ||| 2 ^ i)
theorem or_bit_in {b c i : Nat} (h : b &&& c = b) (hi : c.testBit i = true) : (b ||| 2 ^ i) &&& c = b ||| 2 ^ i := in_iff.2 fun j hj => by
  rw [Nat.testBit_or, Nat.testBit_two_pow, Bool.or_eq_true, decide_eq_true_iff] at hj
  rcases hj with hj | hj
  · exact in_iff.1 h j hj
  · rw [← hj]; exact hi
theorem Nx.hit {A l : List Nat} {a c : Nat} (h : IsBlk A l) (hn : Nx l a c) : Hit (A ++ [a]) c := by
  obtain ⟨b, hb, hc⟩ := hn
  have h1 := ((h.mem b).1 hb).1
  intro x hx
  rcases hc with ⟨h2, rfl⟩ | ⟨h2, i, h3, rfl⟩
  · rcases List.mem_append.1 hx with q | q
    · exact h1 x q
    · rw [List.mem_singleton.1 q]; exact h2
  · rcases List.mem_append.1 hx with q | q
    · exact meet_in (h1 x q) (in_iff.2 fun j hj => by rw [Nat.testBit_or, hj]; rfl)
    · rw [List.mem_singleton.1 q]
      exact meet_iff.2 ⟨i, h3, by rw [Nat.testBit_or, Nat.testBit_two_pow]; simp⟩
theorem Nx.below {A l : List Nat} {a c : Nat} (h : IsBlk A l) (hc : Hit (A ++ [a]) c) : ∃ d, Nx l a d ∧ d &&& c = d := by
  obtain ⟨b, hb, hbc⟩ := h.below (b := c) fun x hx => hc x (List.mem_append_left _ hx)
  by_cases q : a &&& b = 0
  · obtain ⟨i, h1, h2⟩ := meet_iff.1 (hc a (by simp))
    exact ⟨b ||| 2 ^ i, ⟨b, hb, .inr ⟨q, i, h1, rfl⟩⟩, or_bit_in hbc h2⟩
  · exact ⟨b, ⟨b, hb, .inl ⟨q, rfl⟩⟩, hbc⟩
theorem in_eq {a b : Nat} (h : a &&& b = a) (h2 : b &&& a = b) : a = b := by rw [← h, Nat.and_comm, h2]
theorem blk_step {A l nx ls : List Nat} {a : Nat} (h : IsBlk A l) (hn : ∀ c, c ∈ nx ↔ Nx l a c) (hl : IsLeast nx ls) : IsBlk (A ++ [a]) ls := ⟨hl.up, fun c => by
  rw [hl.mem]
  constructor
  · rintro ⟨h1, h2⟩
    refine ⟨((hn c).1 h1).hit h, fun c' hs hc' => ?_⟩
    obtain ⟨d, hd, hdc⟩ := Nx.below h hc'
    obtain ⟨g1, g2⟩ := ssub_iff.1 hs
    have := h2 d ((hn d).2 hd)
    refine ssub_no.1 this ⟨fun e => ?_, in_trans hdc g2⟩
    subst e
    exact g1 (in_eq g2 hdc)
  · rintro ⟨h1, h2⟩
    obtain ⟨d, hd, hdc⟩ := Nx.below h h1
    have e : d = c := Classical.byContradiction fun e => h2 d (ssub_iff.2 ⟨e, hdc⟩) (hd.hit h)
    subst e
    refine ⟨(hn d).2 hd, fun b hb => ?_⟩
    cases e : ssub b d with
    | false => rfl
    | true => exact absurd (((hn b).1 hb).hit h) (h2 b e)⟩
/-! bounds -/
theorem up_len {N : Nat} : ∀ {l : List Nat} {lo : Nat}, l.Pairwise (· < ·) → (∀ x ∈ l, lo ≤ x ∧ x < N) → l.length + lo ≤ max N lo
  | [], lo, _, _ => by simp; omega
  | x :: l, lo, h, hx => by
    obtain ⟨h1, h2⟩ := List.pairwise_cons.1 h
    have := up_len (lo := x + 1) h2 fun y hy => ⟨h1 y hy, (hx y (List.mem_cons_of_mem _ hy)).2⟩
    have := hx x List.mem_cons_self
    simp only [List.length_cons]
    omega
theorem and_full {a n : Nat} (h : a < 2 ^ n) : a &&& (2 ^ n - 1) = a := by rw [Nat.and_two_pow_sub_one_eq_mod, Nat.mod_eq_of_lt h]
theorem hit_full {A : List Nat} {n : Nat} (hA : ∀ a ∈ A, a ≠ 0 ∧ a < 2 ^ n) : Hit A (2 ^ n - 1) := fun a ha => by rw [and_full (hA a ha).2]; exact (hA a ha).1
theorem IsBlk.lt {A bl : List Nat} {n : Nat} (h : IsBlk A bl) (hA : ∀ a ∈ A, a < 2 ^ n) {b : Nat} (hb : b ∈ bl) : b < 2 ^ n := by
  obtain ⟨h1, h2⟩ := (h.mem b).1 hb
  have hh : Hit A (b &&& (2 ^ n - 1)) := fun a ha => by
    have := h1 a ha
    rw [Nat.and_comm b, ← Nat.and_assoc, and_full (hA a ha)]; exact this
  have hin : (b &&& (2 ^ n - 1)) &&& b = b &&& (2 ^ n - 1) := in_iff.2 fun i hi => by rw [Nat.testBit_and, Bool.and_eq_true] at hi; exact hi.1
  have e : b &&& (2 ^ n - 1) = b := Classical.byContradiction fun e => h2 _ (ssub_iff.2 ⟨e, hin⟩) hh
  rw [← e, Nat.and_two_pow_sub_one_eq_mod]
  exact Nat.mod_lt _ (Nat.two_pow_pos n)
theorem IsBlk.pos {A bl : List Nat} {n : Nat} (h : IsBlk A bl) (hA : ∀ a ∈ A, a ≠ 0 ∧ a < 2 ^ n) : 0 < bl.length := by
  obtain ⟨c, hc, _⟩ := h.below (hit_full hA)
  exact List.length_pos_of_mem hc
theorem IsLeast.pos {q ls : List Nat} (h : IsLeast q ls) (h0 : 0 < q.length) : 0 < ls.length := by
  obtain ⟨x, hx⟩ := get_of_lt (xs := q) (k := 0) h0
  obtain ⟨a, ha, _⟩ := h.below (List.mem_of_getElem? hx)
  exact List.length_pos_of_mem ha
theorem nodup_len : ∀ {l m : List Nat}, l.Nodup → (∀ x ∈ l, x ∈ m) → l.length ≤ m.length
  | [], _, _, _ => Nat.zero_le _
  | x :: l, m, h, hm => by
    obtain ⟨h1, h2⟩ := List.nodup_cons.1 h
    have hx := hm x List.mem_cons_self
    have := nodup_len (m := m.erase x) h2 fun y hy => (List.mem_erase_of_ne (fun e => h1 (by rw [← e]; exact hy))).2 (hm y (List.mem_cons_of_mem _ hy))
    rw [List.length_erase_of_mem hx] at this
    have := List.length_pos_of_mem hx
    simp only [List.length_cons]
    omega
theorem up_nodup {l : List Nat} (h : l.Pairwise (· < ·)) : l.Nodup := h.imp fun q => by omega
/-! the lowest bit -/
theorem low_bit {w : Nat} (h : w ≠ 0) : ∃ i, w.testBit i = true ∧ ∀ j, j < i → w.testBit j = false := by
  obtain ⟨i, hi⟩ := bit_of h
  induction i using Nat.strongRecOn with
  | _ i ih =>
    by_cases q : ∃ j, j < i ∧ w.testBit j = true
    · obtain ⟨j, h1, h2⟩ := q; exact ih j h1 h2
    · exact ⟨i, hi, fun j hj => by
        cases e : w.testBit j with
        | false => rfl
        | true => exact absurd ⟨j, hj, e⟩ q⟩
theorem low_form {w i : Nat} (h : w.testBit i = true) (hl : ∀ j, j < i → w.testBit j = false) : w = 2 ^ (i + 1) * (w / 2 ^ (i + 1)) + 2 ^ i := by
  have h1 : w % 2 ^ (i + 1) = 2 ^ i := Nat.eq_of_testBit_eq fun j => by
    rw [Nat.testBit_mod_two_pow, Nat.testBit_two_pow]
    by_cases e : j = i
    · subst e; rw [h]; simp
    · by_cases e2 : j < i
      · rw [hl j e2]; simp; omega
      · rw [decide_eq_false (by omega), decide_eq_false (by omega)]; rfl
  have := Nat.div_add_mod w (2 ^ (i + 1))
  omega
theorem low_drop {w i : Nat} (h : w.testBit i = true) (hl : ∀ j, j < i → w.testBit j = false) (j : Nat) : (w &&& (w - 1)).testBit j = (w.testBit j && decide (j ≠ i)) := by
  have e := low_form h hl
  generalize w / 2 ^ (i + 1) = k at e
  have hp := Nat.two_pow_pos i
  have h2 : 2 ^ (i + 1) = 2 * 2 ^ i := by rw [Nat.pow_succ]; omega
  have e1 : w - 1 = 2 ^ (i + 1) * k + (2 ^ i - 1) := by omega
  rw [Nat.testBit_and, e1, Nat.testBit_two_pow_mul_add _ (by omega)]
  split
  · rw [Nat.testBit_two_pow_sub_one]
    by_cases q : j = i
    · subst q; simp
    · rw [hl j (by omega)]; rfl
  · rename_i q
    have : w.testBit j = k.testBit (j - (i + 1)) := by rw [e, Nat.testBit_two_pow_mul_add _ (by omega), if_neg q]
    rw [this, decide_eq_true (by omega), Bool.and_true, Bool.and_self]
theorem low_neg {w i : Nat} (h : w.testBit i = true) (hl : ∀ j, j < i → w.testBit j = false) (hw : w < 4294967296) : w &&& (4294967296 - w) = 2 ^ i := by
  have e := low_form h hl
  have hi : i < 32 := Classical.byContradiction fun q => by
    have : 2 ^ 32 ≤ 2 ^ i := Nat.pow_le_pow_right (by decide) (by omega)
    have h3 : 2 ^ i ≤ w := by omega
    omega
  have hkb : w / 2 ^ (i + 1) < 2 ^ (31 - i) := by
    rw [Nat.div_lt_iff_lt_mul (Nat.two_pow_pos _), ← Nat.pow_add, show 31 - i + (i + 1) = 32 by omega]; exact hw
  generalize w / 2 ^ (i + 1) = k at e hkb
  have hp := Nat.two_pow_pos i
  have h2 : 2 ^ (i + 1) = 2 * 2 ^ i := by rw [Nat.pow_succ]; omega
  have h32 : 4294967296 = 2 ^ (i + 1) * 2 ^ (31 - i) := by rw [← Nat.pow_add, show i + 1 + (31 - i) = 32 by omega]
  have e1 : 4294967296 - w = 2 ^ (i + 1) * (2 ^ (31 - i) - (k + 1)) + 2 ^ i := by
    rw [Nat.mul_sub, ← h32, Nat.mul_add, Nat.mul_one]
    have : 2 ^ (i + 1) * k + 2 ^ (i + 1) ≤ 4294967296 := by
      rw [h32, show 2 ^ (i + 1) * k + 2 ^ (i + 1) = 2 ^ (i + 1) * (k + 1) by rw [Nat.mul_add, Nat.mul_one]]
      exact Nat.mul_le_mul_left _ hkb
    omega
  refine Nat.eq_of_testBit_eq fun j => ?_
  rw [Nat.testBit_and, e1, Nat.testBit_two_pow_mul_add _ (by omega), e, Nat.testBit_two_pow_mul_add _ (by omega)]
  split
  · rw [Bool.and_self]
  · rename_i q
    rw [Nat.testBit_two_pow_sub_succ hkb, Nat.testBit_two_pow, decide_eq_false (show ¬ i = j by omega)]
    cases k.testBit (j - (i + 1)) <;> simp
end Go.Proofs.Ytpjkpnfelpfhaaa
