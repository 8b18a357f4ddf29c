/- What is before what: the plain words. No condition. -/
import Derived.Test.YtffnjojdjbdfcaaKA6
import Derived.Test.YtffnjojdjbdfcaaD3
import Derived.Test.YtffnjojdjbdfcaaKH
namespace Go.Proofs.Ytffnjojdjbdfcaa
open Go.RowKit
set_option linter.unusedVariables false

/-- a row's number -/
def atV (V : List (List Int)) (i w : Nat) : Int := (V.getD i []).getD w 0
theorem whoN_of {l : List Ev} {i : Nat} {e : Ev} (h : l[i]? = some e) : whoN l i = e.who.toNat := by unfold whoN; rw [h]
theorem joins_att {n : Nat} (vs : List (List Int)) (js : List Int) {i : Nat} (hi : i < n) : (joins n vs js).getD i 0 = 0 ∨ ∃ j ∈ js, (joins n vs js).getD i 0 = (vs.getD j.toNat []).getD i 0 := by
  have key : ∀ (js : List Int) (v : List Int), v.length = n → (js.foldl (fun v j => jq v (vs.getD j.toNat []) n) v).getD i 0 = v.getD i 0 ∨ ∃ j ∈ js, (js.foldl (fun v j => jq v (vs.getD j.toNat []) n) v).getD i 0 = (vs.getD j.toNat []).getD i 0 := by
    intro js
    induction js with
    | nil => intro v _; exact .inl rfl
    | cons y js ih =>
      intro v hv
      have g := jq_get v (vs.getD y.toNat []) n i (by omega)
      rw [if_pos hi] at g
      have g' : (jq v (vs.getD y.toNat []) n).getD i 0 = max (v.getD i 0) ((vs.getD y.toNat []).getD i 0) := by rw [List.getD_eq_getElem?_getD, g]; rfl
      rcases ih (jq v (vs.getD y.toNat []) n) (by rw [jq_len]; exact hv) with h | ⟨j, hj, h⟩
      · rw [List.foldl_cons, h, g']
        rcases Int.le_total (v.getD i 0) ((vs.getD y.toNat []).getD i 0) with q | q
        · right; exact ⟨y, by simp, by omega⟩
        · left; omega
      · right; exact ⟨j, by simp [hj], by rw [List.foldl_cons, h]⟩
  rcases key js (List.replicate n 0) (by simp) with h | h
  · left
    rw [joins, h, List.getD_eq_getElem?_getD, List.getElem?_replicate]; split <;> rfl
  · right; exact h

section
variable {n : Nat} {l : List Ev}
abbrev V (n : Nat) (l : List Ev) (i w : Nat) : Int := atV (vecL l n l.length) i w

theorem V_step {j w : Nat} (hj : j < l.length) (hw : w < n) : V n l j w = (joins n (vecL l n j) (fromL l j)).getD w 0 + if w = whoN l j then 1 else 0 := by
  unfold V atV
  have h := vecL_at l n hj
  have hl : w < (joins n (vecL l n j) (fromL l j)).length := by rw [joins_len]; exact hw
  rw [show (vecL l n l.length).getD j [] = bump (joins n (vecL l n j) (fromL l j)) (whoN l j) from by rw [List.getD_eq_getElem?_getD, h]; rfl, bump, List.getD_eq_getElem?_getD, List.getElem?_set]
  by_cases e : whoN l j = w
  · subst e; simp [hl]
  · rw [if_neg e, if_neg (fun h => e h.symm), List.getD_eq_getElem?_getD]; omega
theorem V_of {p j w : Nat} (hp : p < j) (hj : j ≤ l.length) : ((vecL l n j).getD p []).getD w 0 = V n l p w := by
  unfold V atV
  have h1 := vecL_at l n (m := j) hp
  have h2 := vecL_at l n (m := l.length) (k := p) (by omega)
  rw [List.getD_eq_getElem?_getD (l := vecL l n j), h1, List.getD_eq_getElem?_getD (l := vecL l n l.length), h2]

/-- is i the same as j, or before it? -/
inductive K (l : List Ev) (i : Nat) : Nat → Prop
  | refl : K l i i
  | step {p j : Nat} : K l i p → (p : Int) ∈ fromL l j → p < j → j < l.length → K l i j

theorem K.le {i j : Nat} (h : K l i j) : i ≤ j := by induction h with | refl => exact Nat.le_refl _ | step _ _ h _ ih => omega
theorem K.lt {i j : Nat} (h : K l i j) (hi : i < l.length) : j < l.length := by cases h with | refl => exact hi | step _ _ _ h => exact h
theorem K.trans {i j k : Nat} (h : K l i j) (h' : K l j k) : K l i k := by induction h' with | refl => exact h | step _ a b c ih => exact .step ih a b c

theorem who_of {e : Ev} {i : Nat} (he : l[i]? = some e) : whoN l i = e.who.toNat := whoN_of he
theorem who_lt (hok : OkE n l) {i : Nat} (hi : i < l.length) : whoN l i < n := by
  obtain ⟨e, he⟩ := get_of_lt hi
  obtain ⟨_, h1, h2, _⟩ := hok.all i e he
  rw [who_of he]; omega
theorem who_eq (hok : OkE n l) {i j : Nat} {e f : Ev} (he : l[i]? = some e) (hf : l[j]? = some f) : whoN l i = whoN l j ↔ e.who = f.who := by
  obtain ⟨_, h1, _⟩ := hok.all i e he
  obtain ⟨_, h2, _⟩ := hok.all j f hf
  rw [who_of he, who_of hf]; omega
theorem V_rise (hok : OkE n l) {i j : Nat} (hij : i < j) (hj : j < l.length) (hw : whoN l i = whoN l j) : V n l i (whoN l i) < V n l j (whoN l j) := by
  obtain ⟨e, he⟩ := get_of_lt (show i < l.length by omega)
  obtain ⟨f, hf⟩ := get_of_lt hj
  have := (rise hok j i e f hij he hf ((who_eq hok he hf).1 hw)).2
  rw [Int.toNat_natCast] at this
  rw [← hw, who_of he]; exact this
theorem K_same (hok : OkE n l) : ∀ (j i : Nat), i ≤ j → j < l.length → whoN l i = whoN l j → K l i j := by
  intro j
  induction j using Nat.strongRecOn with
  | _ j ih =>
    intro i hij hj hw
    by_cases e : i = j
    · subst e; exact .refl
    · obtain ⟨x, hx⟩ := get_of_lt (show i < l.length by omega)
      obtain ⟨f, hf⟩ := get_of_lt hj
      obtain ⟨p, y, h1, h2, h3, h4, h5⟩ := lastOf_spec hx rfl (show i < j by omega) (by omega)
      have hxf := (who_eq hok hx hf).1 hw
      rw [hxf] at h1
      have hp := ih p h3 i h2 (by omega) ((who_eq hok hx h4).2 h5.symm)
      exact .step hp (from_last hf h1) h3 hj

theorem V_nonneg {j w : Nat} : 0 ≤ V n l j w := by
  unfold V atV
  rw [List.getD_eq_getElem?_getD (l := vecL l n l.length)]
  cases h : (vecL l n l.length)[j]? with
  | none => simp
  | some v => exact ((vecL_bd l n l.length v (List.mem_of_getElem? h)).getD (by omega) w).1

theorem V_own (hok : OkE n l) {j : Nat} (hj : j < l.length) : 1 ≤ V n l j (whoN l j) := by
  rw [V_step hj (who_lt hok hj), if_pos rfl]
  have : 0 ≤ (joins n (vecL l n j) (fromL l j)).getD (whoN l j) 0 := by
    rcases joins_att (vecL l n j) (fromL l j) (who_lt hok hj) with h | ⟨p, hp, h⟩
    · omega
    · obtain ⟨p', rfl, hlt⟩ := from_lt hok j p hp
      rw [h, Int.toNat_natCast, V_of hlt (by omega)]; exact V_nonneg
  omega

/-- what is known, is known by somebody's number -/
theorem V_know (hok : OkE n l) : ∀ (j w : Nat), j < l.length → w < n → (∀ i, K l i j → whoN l i = w → V n l i w ≤ V n l j w) ∧ (V n l j w = 0 ∨ ∃ i, K l i j ∧ whoN l i = w ∧ V n l j w = V n l i w) := by
  intro j
  induction j using Nat.strongRecOn with
  | _ j ih =>
    intro w hj hw
    have hs := V_step hj hw
    refine ⟨fun i hK hi => ?_, ?_⟩
    · cases hK with
      | refl => exact Int.le_refl _
      | @step p j' hp hm hlt hjl =>
        have h1 := (ih p hlt w (by omega) hw).1 i hp hi
        have h2 := joins_ge (n := n) (vecL l n j) (fromL l j) hw hm
        rw [Int.toNat_natCast, V_of hlt (by omega)] at h2
        rw [hs]; split <;> omega
    · by_cases e : w = whoN l j
      · right; exact ⟨j, .refl, e.symm, rfl⟩
      · rw [if_neg e] at hs
        rcases joins_att (vecL l n j) (fromL l j) hw with h | ⟨p, hp, h⟩
        · left; omega
        · obtain ⟨p', rfl, hlt⟩ := from_lt hok j p hp
          rw [Int.toNat_natCast, V_of hlt (by omega)] at h
          rcases (ih p' hlt w (by omega) hw).2 with h0 | ⟨i, hK, hi, he⟩
          · left; omega
          · right; exact ⟨i, .step hK hp hlt hj, hi, by omega⟩

theorem know_iff (hok : OkE n l) {i j : Nat} (hi : i < l.length) (hj : j < l.length) : V n l i (whoN l i) ≤ V n l j (whoN l i) ↔ K l i j := by
  constructor
  · intro h
    have h1 := V_own hok hi
    rcases (V_know hok j (whoN l i) hj (who_lt hok hi)).2 with h0 | ⟨i', hK, hw, he⟩
    · omega
    · have hle : i ≤ i' := by
        rcases Nat.lt_or_ge i' i with q | q
        · have := V_rise hok q hi hw
          rw [hw] at this; omega
        · exact q
      have hi' : i' < l.length := Nat.lt_of_le_of_lt hK.le hj
      exact (K_same hok i' i hle hi' hw.symm).trans hK
  · intro h; exact (V_know hok j _ hj (who_lt hok hi)).1 i h rfl
theorem V_mono (hok : OkE n l) {i j : Nat} (h : K l i j) (hj : j < l.length) {w : Nat} (hw : w < n) : V n l i w ≤ V n l j w := by
  rcases (V_know hok i w (Nat.lt_of_le_of_lt h.le hj) hw).2 with h0 | ⟨i', hK, hi, he⟩
  · rw [h0]; exact V_nonneg
  · rw [he]; exact (V_know hok j w hj hw).1 i' (hK.trans h) hi
end

/-! ### the cut of what an event knows -/
section
variable {n : Nat} {l : List En}
theorem raw_at {i : Nat} {e : En} (h : l[i]? = some e) : (l.map En.raw)[i]? = some e.raw := by rw [List.getElem?_map, h]; rfl
theorem who_raw {i : Nat} {e : En} (h : l[i]? = some e) : whoN (l.map En.raw) i = e.who := by rw [whoN_of (raw_at h)]; show ((e.who : Nat) : Int).toNat = _; omega
theorem raw_lt {i : Nat} {e : En} (h : l[i]? = some e) : i < (l.map En.raw).length := by
  rw [List.length_map]
  exact (List.getElem?_eq_some_iff.1 h).1
theorem en_at {i : Nat} (h : i < (l.map En.raw).length) : ∃ e, l[i]? = some e := by
  rw [List.length_map] at h; exact get_of_lt h
/-- an event's number among its own -/
theorem V_rank (hE : OkE (n : Int) (l.map En.raw)) : ∀ (i : Nat) (e : En), l[i]? = some e → V n (l.map En.raw) i e.who = (cntL l e.who i : Int) + 1 := by
  intro i
  induction i using Nat.strongRecOn with
  | _ i ih =>
    intro e he
    have hi := raw_lt he
    have hw := who_raw he
    have hwn : e.who < n := by rw [← hw]; exact who_lt hE hi
    have hs := V_step (n := n) hi hwn
    rw [if_pos hw.symm] at hs
    have hup : (joins n (vecL (l.map En.raw) n i) (fromL (l.map En.raw) i)).getD e.who 0 ≤ (cntL l e.who i : Int) := by
      rcases joins_att (vecL (l.map En.raw) n i) (fromL (l.map En.raw) i) hwn with h | ⟨p, hp, h⟩
      · omega
      · obtain ⟨p', rfl, hlt⟩ := from_lt hE i p hp
        rw [Int.toNat_natCast, V_of hlt (by omega)] at h
        rcases (V_know hE p' e.who (by omega) hwn).2 with h0 | ⟨i', hK, hi', he'⟩
        · omega
        · have hle := hK.le
          obtain ⟨f, hf⟩ := en_at (l := l) (show i' < (l.map En.raw).length by omega)
          have hfw := who_raw hf
          rw [hi'] at hfw
          have hr := ih i' (by omega) f hf
          have h3 : cntL l e.who (i' + 1) = cntL l e.who i' + 1 := by rw [cnt_succ hf, if_pos hfw.symm]
          have h4 := cnt_mono (l := l) (p := e.who) (show i' + 1 ≤ i by omega)
          rw [← hfw] at hr
          omega
    have hlo : (cntL l e.who i : Int) + 1 ≤ V n (l.map En.raw) i e.who := by
      by_cases hz : cntL l e.who i = 0
      · have := V_own hE hi
        rw [hw] at this; omega
      · obtain ⟨p, hp⟩ := get_of_lt (xs := ofL l e.who i) (k := cntL l e.who i - 1) (by rw [of_len (by rw [List.length_map] at hi; omega)]; omega)
        obtain ⟨h1, ⟨f, hf, hfw⟩, h3⟩ := of_inv (by rw [List.length_map] at hi; omega) hp
        have hr := ih p h1 f hf
        have hrise := V_rise hE h1 hi (by rw [who_raw hf, hw, hfw])
        rw [who_raw hf, hw, hfw] at hrise
        rw [hfw] at hr
        omega
    omega
/-- the whole cut of what an event knows -/
def pastC (n : Nat) (l : List En) (i : Nat) : List Nat := (List.range n).map fun w => (V n (l.map En.raw) i w).toNat
theorem past_len (i : Nat) : (pastC n l i).length = n := by simp [pastC]
theorem past_at {i w : Nat} (hw : w < n) : (((pastC n l i).getD w 0 : Nat) : Int) = V n (l.map En.raw) i w := by
  have := V_nonneg (n := n) (l := l.map En.raw) (j := i) (w := w)
  unfold pastC
  rw [List.getD_eq_getElem?_getD, List.getElem?_map, List.getElem?_range hw]
  simp only [Option.map_some, Option.getD_some]; omega
theorem past_out {i w : Nat} (hw : ¬ w < n) : (pastC n l i).getD w 0 = 0 := by
  rw [List.getD_eq_getElem?_getD, List.getElem?_eq_none (by rw [past_len]; omega)]; rfl
theorem past_row {i : Nat} (hi : i < (l.map En.raw).length) : (vecL (l.map En.raw) n (l.map En.raw).length)[i]? = some ((pastC n l i).map (Nat.cast : Nat → Int)) := by
  obtain ⟨r, hr⟩ := get_of_lt (xs := vecL (l.map En.raw) n (l.map En.raw).length) (k := i) (by rw [vecL_len]; exact hi)
  have hl := vecL_each (l.map En.raw) n _ r (List.mem_of_getElem? hr)
  rw [hr]
  congr 1
  refine List.ext_getElem? fun w => ?_
  by_cases hw : w < n
  · obtain ⟨x, hx⟩ := get_of_lt (xs := r) (k := w) (by omega)
    have h1 := past_at (l := l) (i := i) hw
    have h2 : V n (l.map En.raw) i w = x := by unfold V atV; rw [show (vecL (l.map En.raw) n (l.map En.raw).length).getD i [] = r from by rw [List.getD_eq_getElem?_getD, hr]; rfl, List.getD_eq_getElem?_getD, hx]; rfl
    obtain ⟨y, hy⟩ := get_of_lt (xs := pastC n l i) (k := w) (by rw [past_len]; exact hw)
    rw [getD_of hy, h2] at h1
    rw [hx, List.getElem?_map, hy]; simp [h1]
  · rw [List.getElem?_eq_none (by omega), List.getElem?_eq_none (by rw [List.length_map, past_len]; omega)]
theorem past_know (hE : OkE (n : Int) (l.map En.raw)) {i w : Nat} (hi : i < (l.map En.raw).length) : (pastC n l i).getD w 0 = 0 ∨ ∃ i' e, K (l.map En.raw) i' i ∧ l[i']? = some e ∧ e.who = w ∧ (pastC n l i).getD w 0 = cntL l w i' + 1 := by
  by_cases hw : w < n
  · have hp := past_at (l := l) (i := i) hw
    rcases (V_know hE i w hi hw).2 with h0 | ⟨i', hK, hi', he'⟩
    · left; omega
    · right
      have := hK.le
      obtain ⟨e, he⟩ := en_at (l := l) (show i' < (l.map En.raw).length by omega)
      have hew := who_raw he
      rw [hi'] at hew
      have hr := V_rank hE i' e he
      rw [← hew] at hr
      exact ⟨i', e, hK, he, hew.symm, by omega⟩
  · left; exact past_out hw
theorem past_in (hE : OkE (n : Int) (l.map En.raw)) {i j : Nat} {e : En} (hi : i < (l.map En.raw).length) (he : l[j]? = some e) : inC l (pastC n l i) j ↔ K (l.map En.raw) j i := by
  have hj := raw_lt he
  have hw := who_raw he
  have hwn : e.who < n := by rw [← hw]; exact who_lt hE hj
  rw [← know_iff hE hj hi, hw, V_rank hE j e he, ← past_at (l := l) (i := i) hwn]
  constructor
  · rintro ⟨e', he', h⟩
    rw [he] at he'; cases he'; omega
  · intro h; exact ⟨e, he, by omega⟩
theorem past_cut (hE : OkE (n : Int) (l.map En.raw)) {i : Nat} (hi : i < (l.map En.raw).length) : Cut n l (pastC n l i) := by
  refine Cut.of_getD (past_len i) fun w => ?_
  rcases past_know hE (w := w) hi with h | ⟨i', e, _, he, hw, h⟩
  · omega
  · have := cnt_lt he
    rw [hw] at this; omega
theorem past_whole (hE : OkE (n : Int) (l.map En.raw)) {i : Nat} (hi : i < (l.map En.raw).length) : Whole l (pastC n l i) := by
  intro j e he hk hin
  have hK := (past_in hE hi he).1 hin
  obtain ⟨q, s, h1, h2, h3, _⟩ := (hE.all j e.raw (raw_at he)).2.2.2 hk
  have h1' : e.src = (q : Int) := h1
  obtain ⟨x, hx⟩ := en_at (l := l) (show q < (l.map En.raw).length by have := raw_lt he; omega)
  rw [h1', Int.toNat_natCast]
  refine (past_in hE hi hx).2 ((K.step .refl ?_ h2 (raw_lt he)).trans hK)
  rw [fromL_at (raw_at he), fromE]
  refine List.mem_append_right _ ?_
  rw [if_pos (show e.raw.kind = 3 from hk), List.mem_singleton]
  exact h1'.symm
theorem own_last {l : List Ev} {w : Int} : ∀ {k j : Nat}, k ≤ l.length → lastOf l k w = some j → j < k ∧ ∃ x, l[j]? = some x ∧ x.who = w
  | 0, j, _, h => by cases h
  | k + 1, j, hk, h => by
    obtain ⟨x, hx⟩ := get_of_lt (show k < l.length by omega)
    unfold lastOf at h
    rw [hx] at h
    simp only at h
    split at h
    · rename_i hw
      cases h; exact ⟨by omega, x, hx, hw⟩
    · obtain ⟨h1, h2⟩ := own_last (by omega) h
      exact ⟨by omega, h2⟩
/-- a whole cut holds what its events know -/
theorem down_of (hE : OkE (n : Int) (l.map En.raw)) {g : List Nat} (hg : Whole l g) {j i : Nat} (hK : K (l.map En.raw) j i) (hin : inC l g i) : inC l g j := by
  induction hK with
  | refl => exact hin
  | @step p i hp hm hlt hil ih =>
    refine ih ?_
    obtain ⟨e, he⟩ := en_at (l := l) hil
    obtain ⟨x, hx⟩ := en_at (l := l) (show p < (l.map En.raw).length by omega)
    rw [fromL_at (raw_at he), fromE, List.mem_append] at hm
    rcases hm with hm | hm
    · cases hla : lastOf (l.map En.raw) i e.raw.who with
      | none => rw [hla] at hm; cases hm
      | some q =>
        rw [hla] at hm
        simp only [List.mem_singleton] at hm
        obtain rfl : p = q := by omega
        obtain ⟨_, y, hy, hyw⟩ := own_last (by omega) hla
        rw [raw_at hx] at hy
        cases hy
        have hxw : x.who = e.who := by
          have : ((x.who : Nat) : Int) = ((e.who : Nat) : Int) := hyw
          omega
        obtain ⟨e', he', hc⟩ := hin
        rw [he] at he'; cases he'
        refine ⟨x, hx, ?_⟩
        have h3 : cntL l x.who (p + 1) = cntL l x.who p + 1 := by rw [cnt_succ hx, if_pos rfl]
        have h4 := cnt_mono (l := l) (p := x.who) (show p + 1 ≤ i by omega)
        rw [hxw] at h3 h4 ⊢
        omega
    · split at hm
      · rename_i hk
        rw [List.mem_singleton] at hm
        have h5 := hg i e he hk hin
        have hm' : (p : Int) = e.src := hm
        rw [← hm', Int.toNat_natCast] at h5
        exact h5
      · cases hm
/-- only the event itself -/
def ownC (n : Nat) (l : List En) (i w : Nat) : List Nat := (List.replicate n 0).set w ((pastC n l i).getD w 0)
theorem own_len (i w : Nat) : (ownC n l i w).length = n := by simp [ownC]
theorem own_at {i w : Nat} (hw : w < n) : (ownC n l i w)[w]? = some ((pastC n l i).getD w 0) := by
  unfold ownC; rw [List.getElem?_set_self (by simpa using hw)]
theorem own_le {i w : Nat} (hw : w < n) : LeC (ownC n l i w) (pastC n l i) := by
  intro p
  by_cases h : p = w
  · subst h; rw [getD_of (own_at hw)]; exact Nat.le_refl _
  · unfold ownC
    rw [getD_other _ (fun e => h e.symm), rep_at]; exact Nat.zero_le _
theorem ownC_cut (hE : OkE (n : Int) (l.map En.raw)) {i w : Nat} (hw : w < n) (hi : i < (l.map En.raw).length) : Cut n l (ownC n l i w) :=
  Cut.of_getD (own_len i w) fun p => Nat.le_trans (own_le hw p) ((past_cut hE hi).at_ p)
theorem past_same (hE : OkE (n : Int) (l.map En.raw)) {i : Nat} {e : En} {g : List Nat} (he : l[i]? = some e) (hj : JG n l (ownC n l i e.who) g) (hg : Whole l g) : g = pastC n l i := by
  have hi := raw_lt he
  have hwn : e.who < n := by rw [← who_raw he]; exact who_lt hE hi
  refine eq_of_le hj.cut (past_cut hE hi) (hj.least _ (past_whole hE hi) (own_le hwn)) fun w => ?_
  rcases past_know hE (w := w) hi with h | ⟨i', f, hK, hf, hw, h⟩
  · omega
  · have hin : inC l g i := by
      refine ⟨e, he, ?_⟩
      have h1 := hj.le e.who
      rw [getD_of (own_at hwn)] at h1
      have h2 := past_at (l := l) (i := i) hwn
      rw [V_rank hE i e he] at h2
      omega
    obtain ⟨f', hf', hc⟩ := down_of hE hg hK hin
    rw [hf] at hf'; cases hf'
    rw [hw] at hc; omega
theorem past_pos (hE : OkE (n : Int) (l.map En.raw)) {i : Nat} {e : En} (he : l[i]? = some e) : 1 ≤ (pastC n l i).getD e.who 0 := by
  have hi := raw_lt he
  have hwn : e.who < n := by rw [← who_raw he]; exact who_lt hE hi
  have h2 := past_at (l := l) (i := i) hwn
  rw [V_rank hE i e he] at h2
  omega
end
end Go.Proofs.Ytffnjojdjbdfcaa
