/- Two neighbours in the other order: all have the same numbers. Plain words. No condition. -/
import Derived.Test.YtehcefknofcmiaaM1
import Derived.Test.YtehcefknofcmiaaC6
namespace Go.Proofs.Ytehcefknofcmiaa
open Go.RowKit
set_option linter.unusedVariables false
set_option linter.unusedSimpArgs false
set_option maxRecDepth 100000

/-! two neighbours in the other order -/
def sg (i j : Nat) : Nat := if j = i then i + 1 else if j = i + 1 then i else j
def rl (i : Nat) (e : Ev) : Ev := if e.kind = 3 ∧ (e.src = (i : Int) ∨ e.src = (i : Int) + 1) then ⟨e.kind, e.who, 2 * (i : Int) + 1 - e.src⟩ else e
theorem rl_kind (i : Nat) (e : Ev) : (rl i e).kind = e.kind := by unfold rl; split <;> rfl
theorem rl_who (i : Nat) (e : Ev) : (rl i e).who = e.who := by unfold rl; split <;> rfl
theorem rl_src {i s : Nat} {e : Ev} (hk : e.kind = 3) (hs : e.src = (s : Int)) : (rl i e).src = ((sg i s : Nat) : Int) := by
  unfold rl sg
  by_cases h1 : s = i
  · rw [if_pos ⟨hk, .inl (by omega)⟩, if_pos h1]; dsimp only; omega
  · by_cases h2 : s = i + 1
    · rw [if_pos ⟨hk, .inr (by omega)⟩, if_neg h1, if_pos h2]; dsimp only; omega
    · rw [if_neg (fun h => by omega), if_neg h1, if_neg h2]; exact hs
theorem sg_cs (i j : Nat) : (j = i ∧ sg i j = i + 1) ∨ (j = i + 1 ∧ sg i j = i) ∨ (j ≠ i ∧ j ≠ i + 1 ∧ sg i j = j) := by
  unfold sg
  by_cases c : j = i
  · rw [if_pos c]; exact .inl ⟨c, rfl⟩
  · rw [if_neg c]
    by_cases d : j = i + 1
    · rw [if_pos d]; exact .inr (.inl ⟨d, rfl⟩)
    · rw [if_neg d]; exact .inr (.inr ⟨c, d, rfl⟩)
theorem sg_sg (i j : Nat) : sg i (sg i j) = j := by
  have h1 := sg_cs i j
  have h2 := sg_cs i (sg i j)
  omega
structure Swp (l m : List Ev) (i : Nat) : Prop where
  len : m.length = l.length
  hi : i + 1 < l.length
  at_ : ∀ j e, l[j]? = some e → m[sg i j]? = some (rl i e)
  ne : ∀ a b, l[i]? = some a → l[i + 1]? = some b → a.who ≠ b.who
  nt : ∀ b, l[i + 1]? = some b → ¬ (b.kind = 3 ∧ b.src = (i : Int))
section
variable {l m : List Ev} {i n : Nat}
theorem Swp.low (h : Swp l m i) {j : Nat} {e : Ev} (hj : j < i ∨ i + 1 < j) (he : l[j]? = some e) : m[j]? = some (rl i e) := by
  have := h.at_ j e he
  rwa [show sg i j = j from by unfold sg; rw [if_neg (by omega), if_neg (by omega)]] at this
theorem Swp.fst (h : Swp l m i) {e : Ev} (he : l[i + 1]? = some e) : m[i]? = some (rl i e) := by
  have := h.at_ _ e he
  rwa [show sg i (i + 1) = i from by unfold sg; rw [if_neg (by omega), if_pos rfl]] at this
theorem Swp.snd (h : Swp l m i) {e : Ev} (he : l[i]? = some e) : m[i + 1]? = some (rl i e) := by
  have := h.at_ _ e he
  rwa [show sg i i = i + 1 from by unfold sg; rw [if_pos rfl]] at this
theorem last_low (h : Swp l m i) (w : Int) : ∀ k, k ≤ i → lastOf m k w = lastOf l k w
  | 0, _ => rfl
  | k + 1, hk => by
    obtain ⟨e, he⟩ := get_of_lt (xs := l) (k := k) (by have := h.hi; omega)
    rw [lastOf, lastOf, he, h.low (.inl (by omega)) he]
    dsimp only
    rw [rl_who, last_low h w k (by omega)]
theorem sg_low {j : Nat} (h : j < i) : sg i j = j := by unfold sg; rw [if_neg (by omega), if_neg (by omega)]
theorem last_map (h : Swp l m i) (w : Int) : ∀ k, i + 2 ≤ k → k ≤ l.length → lastOf m k w = (lastOf l k w).map (sg i)
  | 0, hk, _ => by omega
  | k + 1, hk, hl => by
    by_cases c : k = i + 1
    · subst c
      obtain ⟨a, ha⟩ := get_of_lt (xs := l) (k := i) (by omega)
      obtain ⟨b, hb⟩ := get_of_lt (xs := l) (k := i + 1) (by omega)
      have hne := h.ne a b ha hb
      rw [lastOf, lastOf, lastOf, lastOf, ha, hb, h.fst hb, h.snd ha]
      dsimp only
      rw [rl_who, rl_who, last_low h w i (Nat.le_refl _)]
      by_cases ea : a.who = w
      · have eb : ¬ b.who = w := fun e => hne (ea.trans e.symm)
        rw [if_pos ea, if_neg eb, if_pos ea]
        show some (i + 1) = some (sg i i)
        rw [show sg i i = i + 1 from by unfold sg; rw [if_pos rfl]]
      · rw [if_neg ea]
        by_cases eb : b.who = w
        · rw [if_pos eb, if_pos eb]
          show some i = some (sg i (i + 1))
          rw [show sg i (i + 1) = i from by unfold sg; rw [if_neg (by omega), if_pos rfl]]
        · rw [if_neg eb, if_neg eb, if_neg ea]
          cases e : lastOf l i w with
          | none => rfl
          | some j => show some j = some (sg i j); rw [sg_low (lastOf_lt e)]
    · obtain ⟨e, he⟩ := get_of_lt (xs := l) (k := k) (by omega)
      rw [lastOf, lastOf, he, h.low (.inr (by omega)) he]
      dsimp only
      rw [rl_who, last_map h w k (by omega) (by omega)]
      split
      · show some k = some (sg i k)
        rw [show sg i k = k from by unfold sg; rw [if_neg (by omega), if_neg (by omega)]]
      · rfl
theorem last_sg (h : Swp l m i) {j : Nat} {e : Ev} (he : l[j]? = some e) : lastOf m (sg i j) e.who = (lastOf l j e.who).map (sg i) := by
  have hj := (List.getElem?_eq_some_iff.1 he).1
  have hi := h.hi
  have low : ∀ k, k ≤ i → lastOf m k e.who = (lastOf l k e.who).map (sg i) := fun k hk => by
    rw [last_low h _ k hk]
    cases e2 : lastOf l k e.who with
    | none => rfl
    | some q => show some q = some (sg i q); rw [sg_low (by have := lastOf_lt e2; omega)]
  by_cases c1 : j < i
  · rw [sg_low c1]; exact low j (by omega)
  · by_cases c2 : j = i
    · subst c2
      rw [show sg j j = j + 1 from by unfold sg; rw [if_pos rfl]]
      obtain ⟨b, hb⟩ := get_of_lt (xs := l) (k := j + 1) (by omega)
      have hne := h.ne e b he hb
      rw [lastOf, h.fst hb]; dsimp only
      rw [rl_who, if_neg (fun q => hne q.symm)]
      exact low j (Nat.le_refl _)
    · by_cases c3 : j = i + 1
      · subst c3
        rw [show sg i (i + 1) = i from by unfold sg; rw [if_neg (by omega), if_pos rfl]]
        obtain ⟨a, ha⟩ := get_of_lt (xs := l) (k := i) (by omega)
        have hne := h.ne a e ha he
        rw [show lastOf l (i + 1) e.who = lastOf l i e.who from by rw [lastOf, ha]; dsimp only; rw [if_neg hne]]
        exact low i (Nat.le_refl _)
      · rw [show sg i j = j from by unfold sg; rw [if_neg c2, if_neg c3]]
        exact last_map h _ j (by omega) (by omega)
/-- what is before it at once -/
theorem from_sg (h : Swp l m i) (hok : OkE n l) {j : Nat} (hj : j < l.length) : fromL m (sg i j) = (fromL l j).map (fun z => ((sg i z.toNat : Nat) : Int)) := by
  obtain ⟨e, he⟩ := get_of_lt hj
  rw [fromL_at (h.at_ j e he), fromL_at he]
  unfold fromE
  rw [rl_who, rl_kind, last_sg h he, List.map_append]
  congr 1
  · cases lastOf l j e.who with
    | none => rfl
    | some q => show [((sg i q : Nat) : Int)] = [((sg i ((q : Nat) : Int).toNat : Nat) : Int)]; rw [Int.toNat_natCast]
  · by_cases hk : e.kind = 3
    · rw [if_pos hk, if_pos hk]
      obtain ⟨_, _, _, hs⟩ := hok.all j e he
      obtain ⟨s, _, hs1, _⟩ := hs hk
      rw [rl_src hk hs1]
      show _ = [((sg i e.src.toNat : Nat) : Int)]
      rw [hs1, Int.toNat_natCast]
    · rw [if_neg hk, if_neg hk]; rfl
theorem from_ltS (hok : OkE n l) {j : Nat} (hj : j < l.length) {z : Int} (hz : z ∈ fromL l j) : ∃ p : Nat, z = (p : Int) ∧ p < j := by
  obtain ⟨e, he⟩ := get_of_lt hj
  rw [fromL_at he] at hz
  unfold fromE at hz
  rcases List.mem_append.1 hz with h | h
  · cases e2 : lastOf l j e.who with
    | none => rw [e2] at h; cases h
    | some q => rw [e2] at h; simp at h; exact ⟨q, h, lastOf_lt e2⟩
  · split at h
    · rename_i hk
      rw [List.mem_singleton] at h
      obtain ⟨_, _, _, hs⟩ := hok.all j e he
      obtain ⟨s, _, hs1, hs2, _⟩ := hs hk
      exact ⟨s, by rw [h, hs1], hs2⟩
    · cases h
theorem sg_lt (h : Swp l m i) (hok : OkE n l) {j p : Nat} (hj : j < l.length) (hp : (p : Int) ∈ fromL l j) : sg i p < sg i j := by
  obtain ⟨p', e1, hlt⟩ := from_ltS hok hj hp
  obtain rfl : p = p' := by omega
  by_cases c : j = i + 1 ∧ p = i
  · exfalso
    obtain ⟨rfl, rfl⟩ := c
    obtain ⟨e, he⟩ := get_of_lt hj
    rw [fromL_at he] at hp
    unfold fromE at hp
    rcases List.mem_append.1 hp with q | q
    · obtain ⟨a, ha⟩ := get_of_lt (xs := l) (k := p) (by omega)
      have hne := h.ne a e ha he
      cases e2 : lastOf l (p + 1) e.who with
      | none => rw [e2] at q; cases q
      | some r =>
        rw [e2] at q; simp at q
        have hr : r = p := by omega
        subst hr
        rw [lastOf, ha] at e2; dsimp only at e2
        rw [if_neg hne] at e2
        have := lastOf_lt e2; omega
    · split at q
      · rename_i hk; rw [List.mem_singleton] at q; exact h.nt e he ⟨hk, q.symm⟩
      · cases q
  · have h8 := sg_cs i p
    have h9 := sg_cs i j
    omega
theorem Swp.ok (h : Swp l m i) (hok : OkE n l) : OkE n m := by
  refine ⟨hok.low, hok.high, by rw [h.len]; exact hok.few, fun k f hf => ?_⟩
  have hk := (List.getElem?_eq_some_iff.1 hf).1
  rw [h.len] at hk
  have hsk : sg i k < l.length := by
    have h8 := h.hi
    have h9 := sg_cs i k
    omega
  obtain ⟨e, he⟩ := get_of_lt hsk
  have h2 := h.at_ _ e he
  rw [sg_sg, hf] at h2
  cases h2
  obtain ⟨q1, q2, q3, q4⟩ := hok.all _ e he
  refine ⟨by rw [rl_kind]; exact q1, by rw [rl_who]; exact q2, by rw [rl_who]; exact q3, fun h3 => ?_⟩
  rw [rl_kind] at h3
  obtain ⟨s, x, s1, s2, s3, s4⟩ := q4 h3
  have hm : (s : Int) ∈ fromL l (sg i k) := by
    rw [fromL_at he]; unfold fromE; rw [if_pos h3]
    exact List.mem_append_right _ (by rw [s1]; exact List.mem_singleton.2 rfl)
  have hlt := sg_lt h hok hsk hm
  rw [sg_sg] at hlt
  exact ⟨sg i s, rl i x, rl_src h3 s1, hlt, h.at_ s x s3, by rw [rl_kind]; exact s4⟩
theorem joins_map {n : Nat} {vs vs' : List (List Int)} {js : List Int} {f : Int → Int} (h : ∀ j ∈ js, vs.getD j.toNat [] = vs'.getD (f j).toNat []) : joins n vs' (js.map f) = joins n vs js := by
  unfold joins
  rw [List.foldl_map]
  have key : ∀ (js : List Int) (v : List Int), (∀ j ∈ js, vs.getD j.toNat [] = vs'.getD (f j).toNat []) → js.foldl (fun v j => jq v (vs'.getD (f j).toNat []) n) v = js.foldl (fun v j => jq v (vs.getD j.toNat []) n) v := fun js => by
    induction js with
    | nil => intro v _; rfl
    | cons j js ih =>
      intro v hj
      rw [List.foldl_cons, List.foldl_cons, hj j (by simp)]
      exact ih _ fun q hq => hj q (by simp [hq])
  exact key js _ h
/-- all have the same numbers -/
theorem rows_sg (h : Swp l m i) (hok : OkE n l) : ∀ j, j < l.length → (vecL m n m.length)[sg i j]? = (vecL l n l.length)[j]? := fun j => by
  induction j using Nat.strongRecOn with
  | _ j ih =>
    intro hj
    have hsj : sg i j < m.length := by
      have h8 := h.hi
      have h9 := sg_cs i j
      rw [h.len]; omega
    rw [vecL_at m n hsj, vecL_at l n hj]
    obtain ⟨e, he⟩ := get_of_lt hj
    rw [whoN_of (h.at_ j e he), whoN_of he, rl_who, from_sg h hok hj]
    congr 2
    refine joins_map fun z hz => ?_
    obtain ⟨p, rfl, hp⟩ := from_ltS hok hj hz
    have h2 := sg_lt h hok hj hz
    rw [Int.toNat_natCast, Int.toNat_natCast, List.getD_eq_getElem?_getD, List.getD_eq_getElem?_getD, vecL_at l n hp, vecL_at m n h2]
    have h3 := ih p hp (by omega)
    rw [vecL_at m n (by omega), vecL_at l n (by omega)] at h3
    rw [h3]
end
theorem swp_of {l : List Ev} {i : Nat} {a b : Ev} (ha : l[i]? = some a) (hb : l[i + 1]? = some b) (hne : a.who ≠ b.who) (hnt : ¬ (b.kind = 3 ∧ b.src = (i : Int))) : Swp l (((l.map (rl i)).set i (rl i b)).set (i + 1) (rl i a)) i := by
  have h1 := (List.getElem?_eq_some_iff.1 hb).1
  refine ⟨by simp, h1, fun j e he => ?_, fun a' b' h2 h3 => ?_, fun b' h3 => ?_⟩
  · have hj := (List.getElem?_eq_some_iff.1 he).1
    rw [List.getElem?_set, List.getElem?_set, List.length_set, List.length_map, List.getElem?_map]
    unfold sg
    by_cases c1 : j = i
    · subst c1; rw [ha] at he; cases he
      rw [if_pos rfl, if_pos rfl, if_pos h1]
    · by_cases c2 : j = i + 1
      · subst c2; rw [hb] at he; cases he
        rw [if_neg c1, if_pos rfl, if_neg (by omega), if_pos rfl, if_pos (by omega)]
      · rw [if_neg c1, if_neg c2, if_neg (fun h => c2 h.symm), if_neg (fun h => c1 h.symm), he]; rfl
  · rw [ha] at h2; rw [hb] at h3; cases h2; cases h3; exact hne
  · rw [hb] at h3; cases h3; exact hnt
end Go.Proofs.Ytehcefknofcmiaa
