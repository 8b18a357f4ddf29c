/- What is before what: the plain words. No condition. -/
import Derived.Test.YtehcefknofcmiaaC2
namespace Go.Proofs.Ytehcefknofcmiaa
open Go.RowKit
set_option linter.unusedVariables false

theorem joins_att {n : Nat} (vs : List (List Int)) (js : List Int) {i : Nat} (hi : i < n) : (joins n vs js).getD i 0 = 0 ∨ ∃ j ∈ js, (joins n vs js).getD i 0 = (vs.getD j.toNat []).getD i 0 := by
  have key : ∀ (js : List Int) (v : List Int), v.length = n → (js.foldl (fun v j => jq v (vs.getD j.toNat []) n) v).getD i 0 = v.getD i 0 ∨ ∃ j ∈ js, (js.foldl (fun v j => jq v (vs.getD j.toNat []) n) v).getD i 0 = (vs.getD j.toNat []).getD i 0 := by
    intro js
    induction js with
    | nil => intro v _; exact .inl rfl
    | cons y js ih =>
      intro v hv
      have g := jq_get v (vs.getD y.toNat []) n i (by omega)
      rw [if_pos hi] at g
      have g' : (jq v (vs.getD y.toNat []) n).getD i 0 = max (v.getD i 0) ((vs.getD y.toNat []).getD i 0) := by rw [List.getD_eq_getElem?_getD, g]; rfl
      rcases ih (jq v (vs.getD y.toNat []) n) (by rw [jq_len]; exact hv) with h | ⟨j, hj, h⟩
      · rw [List.foldl_cons, h, g']
        rcases Int.le_total (v.getD i 0) ((vs.getD y.toNat []).getD i 0) with q | q
        · right; exact ⟨y, by simp, by omega⟩
        · left; omega
      · right; exact ⟨j, by simp [hj], by rw [List.foldl_cons, h]⟩
  rcases key js (List.replicate n 0) (by simp) with h | h
  · left
    rw [joins, h, List.getD_eq_getElem?_getD, List.getElem?_replicate]; split <;> rfl
  · right; exact h

section
variable {n : Nat} {l : List Ev}
abbrev V (n : Nat) (l : List Ev) (i w : Nat) : Int := atV (vecL l n l.length) i w

theorem V_step {j w : Nat} (hj : j < l.length) (hw : w < n) : V n l j w = (joins n (vecL l n j) (fromL l j)).getD w 0 + if w = whoN l j then 1 else 0 := by
  unfold V atV
  have h := vecL_at l n hj
  have hl : w < (joins n (vecL l n j) (fromL l j)).length := by rw [joins_len]; exact hw
  rw [show (vecL l n l.length).getD j [] = bump (joins n (vecL l n j) (fromL l j)) (whoN l j) from by rw [List.getD_eq_getElem?_getD, h]; rfl, bump, List.getD_eq_getElem?_getD, List.getElem?_set]
  by_cases e : whoN l j = w
  · subst e; simp [hl]
  · rw [if_neg e, if_neg (fun h => e h.symm), List.getD_eq_getElem?_getD]; omega
theorem V_of {p j w : Nat} (hp : p < j) (hj : j ≤ l.length) : ((vecL l n j).getD p []).getD w 0 = V n l p w := by
  unfold V atV
  have h1 := vecL_at l n (m := j) hp
  have h2 := vecL_at l n (m := l.length) (k := p) (by omega)
  rw [List.getD_eq_getElem?_getD (l := vecL l n j), h1, List.getD_eq_getElem?_getD (l := vecL l n l.length), h2]

/-- is i the same as j, or before it? -/
inductive K (l : List Ev) (i : Nat) : Nat → Prop
  | refl : K l i i
  | step {p j : Nat} : K l i p → (p : Int) ∈ fromL l j → p < j → j < l.length → K l i j

theorem K.le {i j : Nat} (h : K l i j) : i ≤ j := by induction h with | refl => exact Nat.le_refl _ | step _ _ h _ ih => omega
theorem K.lt {i j : Nat} (h : K l i j) (hi : i < l.length) : j < l.length := by cases h with | refl => exact hi | step _ _ _ h => exact h
theorem K.trans {i j k : Nat} (h : K l i j) (h' : K l j k) : K l i k := by induction h' with | refl => exact h | step _ a b c ih => exact .step ih a b c

theorem who_of {e : Ev} {i : Nat} (he : l[i]? = some e) : whoN l i = e.who.toNat := whoN_of he
theorem who_lt (hok : OkE n l) {i : Nat} (hi : i < l.length) : whoN l i < n := by
  obtain ⟨e, he⟩ := get_of_lt hi
  obtain ⟨_, h1, h2, _⟩ := hok.all i e he
  rw [who_of he]; omega
theorem who_eq (hok : OkE n l) {i j : Nat} {e f : Ev} (he : l[i]? = some e) (hf : l[j]? = some f) : whoN l i = whoN l j ↔ e.who = f.who := by
  obtain ⟨_, h1, _⟩ := hok.all i e he
  obtain ⟨_, h2, _⟩ := hok.all j f hf
  rw [who_of he, who_of hf]; omega
theorem V_rise (hok : OkE n l) {i j : Nat} (hij : i < j) (hj : j < l.length) (hw : whoN l i = whoN l j) : V n l i (whoN l i) < V n l j (whoN l j) := by
  obtain ⟨e, he⟩ := get_of_lt (show i < l.length by omega)
  obtain ⟨f, hf⟩ := get_of_lt hj
  have := (rise hok j i e f hij he hf ((who_eq hok he hf).1 hw)).2
  rw [Int.toNat_natCast] at this
  rw [← hw, who_of he]; exact this
theorem K_same (hok : OkE n l) : ∀ (j i : Nat), i ≤ j → j < l.length → whoN l i = whoN l j → K l i j := by
  intro j
  induction j using Nat.strongRecOn with
  | _ j ih =>
    intro i hij hj hw
    by_cases e : i = j
    · subst e; exact .refl
    · obtain ⟨x, hx⟩ := get_of_lt (show i < l.length by omega)
      obtain ⟨f, hf⟩ := get_of_lt hj
      obtain ⟨p, y, h1, h2, h3, h4, h5⟩ := lastOf_spec hx rfl (show i < j by omega) (by omega)
      have hxf := (who_eq hok hx hf).1 hw
      rw [hxf] at h1
      have hp := ih p h3 i h2 (by omega) ((who_eq hok hx h4).2 h5.symm)
      exact .step hp (from_last hf h1) h3 hj

theorem V_nonneg {j w : Nat} : 0 ≤ V n l j w := by
  unfold V atV
  rw [List.getD_eq_getElem?_getD (l := vecL l n l.length)]
  cases h : (vecL l n l.length)[j]? with
  | none => simp
  | some v => exact ((vecL_bd l n l.length v (List.mem_of_getElem? h)).getD (by omega) w).1

theorem V_own (hok : OkE n l) {j : Nat} (hj : j < l.length) : 1 ≤ V n l j (whoN l j) := by
  rw [V_step hj (who_lt hok hj), if_pos rfl]
  have : 0 ≤ (joins n (vecL l n j) (fromL l j)).getD (whoN l j) 0 := by
    rcases joins_att (vecL l n j) (fromL l j) (who_lt hok hj) with h | ⟨p, hp, h⟩
    · omega
    · obtain ⟨p', rfl, hlt⟩ := from_lt hok j p hp
      rw [h, Int.toNat_natCast, V_of hlt (by omega)]; exact V_nonneg
  omega

/-- what is known, is known by somebody's number -/
theorem V_know (hok : OkE n l) : ∀ (j w : Nat), j < l.length → w < n → (∀ i, K l i j → whoN l i = w → V n l i w ≤ V n l j w) ∧ (V n l j w = 0 ∨ ∃ i, K l i j ∧ whoN l i = w ∧ V n l j w = V n l i w) := by
  intro j
  induction j using Nat.strongRecOn with
  | _ j ih =>
    intro w hj hw
    have hs := V_step hj hw
    refine ⟨fun i hK hi => ?_, ?_⟩
    · cases hK with
      | refl => exact Int.le_refl _
      | @step p j' hp hm hlt hjl =>
        have h1 := (ih p hlt w (by omega) hw).1 i hp hi
        have h2 := joins_ge (n := n) (vecL l n j) (fromL l j) hw hm
        rw [Int.toNat_natCast, V_of hlt (by omega)] at h2
        rw [hs]; split <;> omega
    · by_cases e : w = whoN l j
      · right; exact ⟨j, .refl, e.symm, rfl⟩
      · rw [if_neg e] at hs
        rcases joins_att (vecL l n j) (fromL l j) hw with h | ⟨p, hp, h⟩
        · left; omega
        · obtain ⟨p', rfl, hlt⟩ := from_lt hok j p hp
          rw [Int.toNat_natCast, V_of hlt (by omega)] at h
          rcases (ih p' hlt w (by omega) hw).2 with h0 | ⟨i, hK, hi, he⟩
          · left; omega
          · right; exact ⟨i, .step hK hp hlt hj, hi, by omega⟩

theorem know_iff (hok : OkE n l) {i j : Nat} (hi : i < l.length) (hj : j < l.length) : V n l i (whoN l i) ≤ V n l j (whoN l i) ↔ K l i j := by
  constructor
  · intro h
    have h1 := V_own hok hi
    rcases (V_know hok j (whoN l i) hj (who_lt hok hi)).2 with h0 | ⟨i', hK, hw, he⟩
    · omega
    · have hle : i ≤ i' := by
        rcases Nat.lt_or_ge i' i with q | q
        · have := V_rise hok q hi hw
          rw [hw] at this; omega
        · exact q
      have hi' : i' < l.length := Nat.lt_of_le_of_lt hK.le hj
      exact (K_same hok i' i hle hi' hw.symm).trans hK
  · intro h; exact (V_know hok j _ hj (who_lt hok hi)).1 i h rfl
theorem bef_iff (hok : OkE n l) {i j : Nat} (hi : i < l.length) (hj : j < l.length) : befB n l i j = true ↔ i ≠ j ∧ K l i j := by
  unfold befB
  rw [decide_eq_true_iff]
  exact and_congr_right fun _ => know_iff hok hi hj
theorem V_mono (hok : OkE n l) {i j : Nat} (h : K l i j) (hj : j < l.length) {w : Nat} (hw : w < n) : V n l i w ≤ V n l j w := by
  rcases (V_know hok i w (Nat.lt_of_le_of_lt h.le hj) hw).2 with h0 | ⟨i', hK, hi, he⟩
  · rw [h0]; exact V_nonneg
  · rw [he]; exact (V_know hok j w hj hw).1 i' (hK.trans h) hi
theorem scal_step {j : Nat} (hj : j < l.length) {p : Nat} (hp : (p : Int) ∈ fromL l j) (hlt : p < j) : (scalL l l.length).getD p 0 < (scalL l l.length).getD j 0 := by
  have sj := scalL_at l (m := l.length) hj
  have sp := scalL_at l (m := l.length) (k := p) (by omega)
  have sp2 := scalL_at l (m := j) (k := p) hlt
  have a1 := mx_ge (scalL l j) (fromL l j) hp
  rw [Int.toNat_natCast, List.getD_eq_getElem?_getD, sp2] at a1
  rw [List.getD_eq_getElem?_getD, sp, List.getD_eq_getElem?_getD, sj]
  simp only [Option.getD_some] at *
  omega
theorem scal_K {i j : Nat} (h : K l i j) : i = j ∨ (scalL l l.length).getD i 0 < (scalL l l.length).getD j 0 := by
  induction h with
  | refl => exact .inl rfl
  | step _ hm hlt hj ih =>
    have := scal_step hj hm hlt
    rcases ih with rfl | ih
    · exact .inr this
    · right; omega
/-- LAMPORT -/
theorem lamport (hok : OkE n l) {i j : Nat} (hi : i < l.length) (hj : j < l.length) (h : befB n l i j = true) : (scalL l l.length).getD i 0 < (scalL l l.length).getD j 0 := by
  obtain ⟨h1, h2⟩ := (bef_iff hok hi hj).1 h
  exact (scal_K h2).resolve_left h1
/-- the order -/
theorem order (hok : OkE n l) {i j k : Nat} (hi : i < l.length) (hj : j < l.length) (hk : k < l.length) : (befB n l i j = true → i < j) ∧ (befB n l i j = true → befB n l j k = true → befB n l i k = true) ∧ (befB n l i j = false → i < j → whoN l i ≠ whoN l j) := by
  refine ⟨fun h => ?_, fun h1 h2 => ?_, fun h hlt hw => ?_⟩
  · obtain ⟨h1, h2⟩ := (bef_iff hok hi hj).1 h
    have := h2.le; omega
  · obtain ⟨a1, a2⟩ := (bef_iff hok hi hj).1 h1
    obtain ⟨b1, b2⟩ := (bef_iff hok hj hk).1 h2
    exact (bef_iff hok hi hk).2 ⟨by have := a2.le; have := b2.le; omega, a2.trans b2⟩
  · have := (bef_iff hok hi hj).2 ⟨by omega, K_same hok j i (by omega) hj hw⟩
    rw [h] at this; cases this
/-- MATTERN -/
theorem mattern (hok : OkE n l) {i j : Nat} (hi : i < l.length) (hj : j < l.length) (hij : i ≠ j) : befB n l i j = true ↔ ∀ w, w < n → V n l i w ≤ V n l j w := by
  constructor
  · intro h w hw
    exact V_mono hok ((bef_iff hok hi hj).1 h).2 hj hw
  · intro h
    exact (bef_iff hok hi hj).2 ⟨hij, (know_iff hok hi hj).1 (h _ (who_lt hok hi))⟩
end
end Go.Proofs.Ytehcefknofcmiaa
