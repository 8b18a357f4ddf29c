/- Vectors; what rises. -/
import Derived.Test.YtffnjojdjbdfcaaKA5
namespace Go.Proofs.Ytffnjojdjbdfcaa
open Go.RowKit Go.Shelf
set_option linter.unusedVariables false

/-- a slice of rows reads as lists -/
def Vs (w : World) (v : Value) (ls : List (List Int)) : Prop := ∃ ps : List Vc, ps.map Vc.xs = ls ∧ SlS FV 1 w v ps ∧ ∀ p ∈ ps, SlS SZ 1 w (.slice p.a p.xs.length p.c) p.xs
theorem Vs.below {w w' : World} {v : Value} {ls : List (List Int)} (h : Vs w v ls) (hb : Below w.heap.size w w') : Vs w' v ls := by
  obtain ⟨ps, h1, h2, h3⟩ := h
  exact ⟨ps, h1, h2.below hb, fun p hp => (h3 p hp).below hb⟩
theorem Vs.form {w : World} {v : Value} {ls : List (List Int)} (h : Vs w v ls) : ∃ a c, v = .slice a ls.length c := by
  obtain ⟨ps, h1, h2, h3⟩ := h
  obtain ⟨a, c, e, _⟩ := h2.form
  exact ⟨a, c, by rw [e, ← h1, List.length_map]⟩
theorem Vs.get {w : World} {a : Option Addr} {n c : Nat} {ls : List (List Int)} (h : Vs w (.slice a n c) ls) {j : Nat} {x : List Int} (hx : ls[j]? = some x) :
    ∃ b off pa pc, a = some ⟨b, off, none⟩ ∧ w.cell? ⟨b, off + j, none⟩ = some (.slice pa x.length pc) ∧ SlS SZ 1 w (.slice pa x.length pc) x := by
  obtain ⟨ps, h1, h2, h3⟩ := h
  rw [← h1, List.getElem?_map] at hx
  cases hp : ps[j]? with
  | none => rw [hp] at hx; cases hx
  | some p =>
    rw [hp] at hx
    simp at hx
    subst hx
    obtain ⟨b, off, e, _, hc⟩ := h2.el hp
    have := hc 0 _ rfl
    exact ⟨b, off, p.a, p.c, e, by simpa using this, h3 p (List.mem_of_getElem? hp)⟩

set_option maxHeartbeats 4000000 in
theorem vectorsF_any {W : World} {v : Value} {l : List Ev} (n : Int) (h : SlS FE 3 W v l) :
    Calls Try.prog 17 #[.int .i64 n, v] W fun e w' => (∃ (ov : Value) (c : Int), e = .returned (.tuple #[ov, .int .i64 c]) ∧ (c = 0 ↔ OkE n l) ∧ (c = 0 → Vs w' ov (vecL l n.toNat l.length))) ∧ Below W.heap.size W w' := by
  have HCK := Lib.hid (check_any n h)
  have HD := Lib.hid (fun (m : Nat) (hok : OkE m l) (w1 : World) (hb : Below W.heap.size W w1) => vectors_any (W := w1) m (h.below hb) hok)
  obtain ⟨al, cl, rfl, _⟩ := h.form
  clear h
  go_enter Try.func17, Try.ntmps17
  go_wp2_with fail
  refine HCK.out.mono ?_
  rintro e w1 ⟨⟨c, rfl, hc⟩, hb⟩
  have HB := Lib.hid hb
  have HCC := Lib.hid hc
  clear hb hc
  by_cases hc : c = 0
  rotate_left
  · have hc1 : (c != 0) = true := by simpa using hc
    have hc2 : (c == 0) = false := by simpa using hc
    have HC0 := Lib.hid hc
    clear hc
    go_wp2_with fail
    go_ret2
    exact ⟨⟨_, c, rfl, HCC.out, fun h => absurd h HC0.out⟩, HB.out⟩
  subst hc
  have HOK := Lib.hid (HCC.out.1 rfl)
  have hlow := HOK.out.low
  obtain ⟨m, rfl⟩ := Int.eq_ofNat_of_zero_le (show 0 ≤ n by omega)
  have HDD := Lib.hid (HD.out m HOK.out w1 HB.out)
  go_wp2_with fail
  refine HDD.out.mono ?_
  rintro e w2 ⟨ov, rfl, ps, hps, Z, hs⟩
  have hlp : ps.length = l.length := by rw [← List.length_map (f := Vc.xs), hps, vecL_len]
  have HV := Lib.hid (show Vs w2 ov (vecL l m l.length) from ⟨ps, hps, hs.sls (by rw [hlp]; have := HOK.out.few; omega), fun p hp => by
    obtain ⟨j, hj⟩ := List.getElem?_of_mem hp
    refine big_sls hs.sw hj ?_
    have : p.xs.length = m := vecL_each l m l.length _ (by rw [← hps]; exact List.mem_map.2 ⟨p, hp, rfl⟩)
    have := HOK.out.high
    omega⟩)
  have HB2 := Lib.hid (HB.out.trans (hs.below.mono HB.out.size))
  clear hs hps hlp
  go_wp2_with fail
  go_ret2
  exact ⟨⟨ov, 0, rfl, ⟨fun _ => HOK.out, fun _ => rfl⟩, fun _ => HV.out⟩, HB2.out⟩

/-! ### what rises -/
theorem lastOf_spec {l : List Ev} {w : Int} {i : Nat} {e : Ev} (he : l[i]? = some e) (hw : e.who = w) : ∀ {j : Nat}, i < j → j ≤ l.length → ∃ p x, lastOf l j w = some p ∧ i ≤ p ∧ p < j ∧ l[p]? = some x ∧ x.who = w
  | 0, h, _ => by omega
  | j + 1, h, hl => by
    obtain ⟨y, hy⟩ := get_of_lt (show j < l.length by omega)
    unfold lastOf
    rw [hy]
    by_cases hyw : y.who = w
    · simp only [if_pos hyw]
      exact ⟨j, y, rfl, by omega, by omega, hy, hyw⟩
    · simp only [if_neg hyw]
      have hij : i ≠ j := fun e2 => by subst e2; rw [he] at hy; cases hy; exact hyw hw
      obtain ⟨p, x, h1, h2, h3, h4⟩ := lastOf_spec he hw (j := j) (by omega) (by omega)
      exact ⟨p, x, h1, h2, by omega, h4⟩
theorem scalL_at (l : List Ev) {k : Nat} : ∀ {m : Nat}, k < m → (scalL l m)[k]? = some (mx (scalL l k) (fromL l k) + 1)
  | 0, h => by omega
  | m + 1, h => by
    rw [show scalL l (m + 1) = scalL l m ++ [mx (scalL l m) (fromL l m) + 1] from rfl]
    by_cases e : k = m
    · subst e
      rw [List.getElem?_append_right (by rw [scalL_len]; omega), scalL_len, Nat.sub_self]; rfl
    · rw [List.getElem?_append_left (by rw [scalL_len]; omega)]
      exact scalL_at l (m := m) (by omega)
theorem vecL_at (l : List Ev) (n : Nat) {k : Nat} : ∀ {m : Nat}, k < m → (vecL l n m)[k]? = some (bump (joins n (vecL l n k) (fromL l k)) (whoN l k))
  | 0, h => by omega
  | m + 1, h => by
    rw [show vecL l n (m + 1) = vecL l n m ++ [bump (joins n (vecL l n m) (fromL l m)) (whoN l m)] from rfl]
    by_cases e : k = m
    · subst e
      rw [List.getElem?_append_right (by rw [vecL_len]; omega), vecL_len, Nat.sub_self]; rfl
    · rw [List.getElem?_append_left (by rw [vecL_len]; omega)]
      exact vecL_at l n (m := m) (by omega)
theorem mx_ge (sc js : List Int) {j : Int} (h : j ∈ js) : sc.getD j.toNat 0 ≤ mx sc js := by
  have key : ∀ (js : List Int) (a : Int), a ≤ js.foldl (fun x j => max x (sc.getD j.toNat 0)) a ∧ ∀ j ∈ js, sc.getD j.toNat 0 ≤ js.foldl (fun x j => max x (sc.getD j.toNat 0)) a := by
    intro js
    induction js with
    | nil => intro a; exact ⟨Int.le_refl _, fun j h => by cases h⟩
    | cons y js ih =>
      intro a
      obtain ⟨h1, h2⟩ := ih (max a (sc.getD y.toNat 0))
      refine ⟨Int.le_trans (Int.le_max_left _ _) h1, fun j hj => ?_⟩
      cases hj with
      | head => exact Int.le_trans (Int.le_max_right _ _) h1
      | tail _ hj => exact h2 j hj
  exact (key js 0).2 j h
theorem jq_ge {v x : List Int} {i : Nat} (h : i < v.length) (q : Nat) : v.getD i 0 ≤ (jq v x q).getD i 0 ∧ (i < q → x.getD i 0 ≤ (jq v x q).getD i 0) := by
  have := jq_get v x q i h
  rw [List.getD_eq_getElem?_getD (l := jq v x q), this]
  simp only [Option.getD_some]
  split <;> omega
theorem joins_ge {n : Nat} (vs : List (List Int)) (js : List Int) {i : Nat} (hi : i < n) {j : Int} (h : j ∈ js) : (vs.getD j.toNat []).getD i 0 ≤ (joins n vs js).getD i 0 := by
  have key : ∀ (js : List Int) (v : List Int), v.length = n → v.getD i 0 ≤ (js.foldl (fun v j => jq v (vs.getD j.toNat []) n) v).getD i 0 ∧ ∀ j ∈ js, (vs.getD j.toNat []).getD i 0 ≤ (js.foldl (fun v j => jq v (vs.getD j.toNat []) n) v).getD i 0 := by
    intro js
    induction js with
    | nil => intro v _; exact ⟨Int.le_refl _, fun j h => by cases h⟩
    | cons y js ih =>
      intro v hv
      obtain ⟨g1, g2⟩ := jq_ge (v := v) (x := vs.getD y.toNat []) (by omega : i < v.length) n
      obtain ⟨h1, h2⟩ := ih (jq v (vs.getD y.toNat []) n) (by rw [jq_len]; exact hv)
      refine ⟨Int.le_trans g1 h1, fun j hj => ?_⟩
      cases hj with
      | head => exact Int.le_trans (g2 hi) h1
      | tail _ hj => exact h2 j hj
  exact (key js _ (by simp)).2 j h
theorem from_last {l : List Ev} {j p : Nat} {e : Ev} (he : l[j]? = some e) (h : lastOf l j e.who = some p) : (p : Int) ∈ fromL l j := by
  rw [fromL_at he, fromE, h]; simp
theorem rise {n : Int} {l : List Ev} (hok : OkE n l) : ∀ (j i : Nat) (e f : Ev), i < j → l[i]? = some e → l[j]? = some f → e.who = f.who →
    (scalL l l.length).getD i 0 < (scalL l l.length).getD j 0 ∧ ((vecL l n.toNat l.length).getD i []).getD e.who.toNat 0 < ((vecL l n.toNat l.length).getD j []).getD e.who.toNat 0 := by
  intro j
  induction j using Nat.strongRecOn with
  | _ j ih =>
    intro i e f hij he hf hw
    have hjl := (List.getElem?_eq_some_iff.1 hf).1
    obtain ⟨p, x, h1, h2, h3, h4, h5⟩ := lastOf_spec he hw hij (by omega)
    have hm := from_last hf h1
    obtain ⟨q1, q2, q3, _⟩ := hok.all j f hf
    have hwn : f.who.toNat < n.toNat := by omega
    have hwho : whoN l j = e.who.toNat := by unfold whoN; rw [hf, hw]
    have sj := scalL_at l (m := l.length) hjl
    have vj := vecL_at l n.toNat (m := l.length) hjl
    have sp := scalL_at l (m := l.length) (k := p) (by omega)
    have sp2 := scalL_at l (m := j) (k := p) h3
    have vp := vecL_at l n.toNat (m := l.length) (k := p) (by omega)
    have vp2 := vecL_at l n.toNat (m := j) (k := p) h3
    have a1 := mx_ge (scalL l j) (fromL l j) hm
    have a2 := joins_ge (n := n.toNat) (vecL l n.toNat j) (fromL l j) hwn hm
    have step1 : (scalL l l.length).getD p 0 < (scalL l l.length).getD j 0 := by
      rw [show ((p : Int)).toNat = p from rfl, List.getD_eq_getElem?_getD, sp2] at a1
      rw [List.getD_eq_getElem?_getD, List.getD_eq_getElem?_getD, sp, sj]
      simp only [Option.getD_some] at a1 ⊢
      omega
    have step2 : ((vecL l n.toNat l.length).getD p []).getD e.who.toNat 0 < ((vecL l n.toNat l.length).getD j []).getD e.who.toNat 0 := by
      rw [show ((p : Int)).toNat = p from rfl, List.getD_eq_getElem?_getD (l := vecL l n.toNat j), vp2] at a2
      rw [List.getD_eq_getElem?_getD (l := vecL l n.toNat l.length), List.getD_eq_getElem?_getD (l := vecL l n.toNat l.length), vp, vj]
      simp only [Option.getD_some] at a2 ⊢
      rw [hwho]
      have hl : e.who.toNat < (joins n.toNat (vecL l n.toNat j) (fromL l j)).length := by rw [joins_len, hw]; exact hwn
      rw [← hw] at a2
      have hb : (bump (joins n.toNat (vecL l n.toNat j) (fromL l j)) e.who.toNat).getD e.who.toNat 0 = (joins n.toNat (vecL l n.toNat j) (fromL l j)).getD e.who.toNat 0 + 1 := by
        unfold bump
        rw [List.getD_eq_getElem?_getD, List.getElem?_set, if_pos rfl, if_pos hl]; rfl
      rw [hb]
      omega
    by_cases hip : i = p
    · subst hip; exact ⟨step1, step2⟩
    · have := ih p h3 i e x (by omega) he h4 (by rw [h5, hw])
      exact ⟨Int.lt_trans this.1 step1, Int.lt_trans this.2 step2⟩
end Go.Proofs.Ytffnjojdjbdfcaa
