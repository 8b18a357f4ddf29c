/- The library's Sort of few ints, in place. Functions' numbers by the seat. No condition. -/
import Derived.Test.YteejbaindbiimaaS8
import Derived.Test.YteejbaindbiimaaS7
import Derived.Test.YteejbaindbiimaaProg
import Derived.BigRegion
import Derived.Outline
namespace Go.Proofs.Yteejbaindbiimaa
open Go.RowKit
set_option linter.unusedVariables false
attribute [local go_sem] EffAt EffUpon

abbrev SZ (x : Int) : List Value := [.int .i64 x]
theorem SZ_len (x : Int) : (SZ x).length = 1 := rfl
theorem SZ_one (x : Int) (u : Value) (h : u ∈ SZ x) : u.oneCell' = true := by simp [SZ] at h; subst h; rfl

theorem snan_any (a : Int) (w : World) : Calls Try.prog 37 #[.int .i64 a] w fun e w' => e = .returned (.bool false) ∧ w' = w := by
  go_enter Try.func37, Try.ntmps37
  have hd : (a != a) = false := by simp
  go_wp2_with fail
  go_ret
  exact ⟨rfl, rfl⟩

def ltI (a b : Int) : Bool := decide (a < b)
set_option maxHeartbeats 1000000 in
theorem less_any (a b : Int) (w : World) : Calls Try.prog 27 #[.int .i64 a, .int .i64 b] w fun e w' => e = .returned (.bool (ltI a b)) ∧ w' = w := by
  have HL := Lib.hid (show ltI a b = decide (a < b) from rfl)
  by_cases h : a < b
  · have hl : ltI a b = true := by unfold ltI; simpa using h
    rw [hl]
    go_enter Try.func27, Try.ntmps27
    go_wp2_with (go_at_call 37; (with_reducible refine (snan_any _ _).mono ?_); rintro e w' ⟨rfl, rfl⟩)
    go_ret
    exact ⟨rfl, rfl⟩
  · have hl : ltI a b = false := by unfold ltI; simpa using h
    have hd : decide (a < b) = false := by simpa using h
    rw [hl]
    go_enter Try.func27, Try.ntmps27
    go_wp2_with (go_at_call 37; (with_reducible refine (snan_any _ _).mono ?_); rintro e w' ⟨rfl, rfl⟩)
    go_ret
    exact ⟨rfl, rfl⟩

/-- in order, but for place j, up to i -/
def Ins (L : List Int) (i j : Nat) : Prop := ∀ (p q : Nat) (x y : Int), p < q → q ≤ i → q ≠ j → L[p]? = some x → L[q]? = some y → x ≤ y
def Srt (L : List Int) (i : Nat) : Prop := ∀ (p q : Nat) (x y : Int), p < q → q < i → L[p]? = some x → L[q]? = some y → x ≤ y
theorem Srt.ins {L : List Int} {i : Nat} (h : Srt L i) : Ins L i i := fun p q x y h1 h2 h3 => h p q x y h1 (by omega)
theorem Ins.done {L : List Int} {i j : Nat} (h : Ins L i j) (hj : j = 0 ∨ ∃ a b, L[j - 1]? = some a ∧ L[j]? = some b ∧ a ≤ b) : Srt L (i + 1) := by
  intro p q x y h1 h2 hp hq
  by_cases e : q = j
  · subst e
    rcases hj with h0 | ⟨a, b, ha, hb, hab⟩
    · omega
    · rw [hb] at hq; cases hq
      by_cases e2 : p = q - 1
      · subst e2; rw [ha] at hp; cases hp; exact hab
      · exact Int.le_trans (h p (q - 1) x a (by omega) (by omega) (by omega) hp ha) hab
  · exact h p q x y h1 (by omega) e hp hq
theorem swap_get {L : List Int} {j : Nat} {a b : Int} (ha : L[j]? = some a) (hb : L[j + 1]? = some b) (k : Nat) : ((L.set (j + 1) a).set j b)[k]? = if k = j then some b else if k = j + 1 then some a else L[k]? := by
  have l1 := (List.getElem?_eq_some_iff.1 ha).1
  have l2 := (List.getElem?_eq_some_iff.1 hb).1
  by_cases e : k = j
  · subst e
    rw [if_pos rfl, List.getElem?_set, if_pos rfl, if_pos (by rw [List.length_set]; exact l1)]
  · rw [if_neg e, List.getElem?_set, if_neg (fun h => e h.symm)]
    by_cases e2 : k = j + 1
    · subst e2
      rw [if_pos rfl, List.getElem?_set, if_pos rfl, if_pos l2]
    · rw [if_neg e2, List.getElem?_set, if_neg (fun h => e2 h.symm)]
theorem Ins.swap {L : List Int} {i j : Nat} {a b : Int} (h : Ins L i (j + 1)) (hji : j + 1 ≤ i) (ha : L[j]? = some a) (hb : L[j + 1]? = some b) (hlt : b < a) : Ins ((L.set (j + 1) a).set j b) i j := by
  intro p q x y h1 h2 h3 hp hq
  rw [swap_get ha hb] at hp hq
  rw [if_neg h3] at hq
  by_cases eq : q = j + 1
  · subst eq
    rw [if_pos rfl] at hq; cases hq
    by_cases ep : p = j
    · subst ep; rw [if_pos rfl] at hp; cases hp; omega
    · rw [if_neg ep, if_neg (by omega)] at hp
      exact h p j x a (by omega) (by omega) (by omega) hp ha
  · rw [if_neg eq] at hq
    by_cases ep : p = j
    · subst ep; rw [if_pos rfl] at hp; cases hp
      exact h (p + 1) q _ _ (by omega) h2 (by omega) hb hq
    · rw [if_neg ep] at hp
      by_cases ep2 : p = j + 1
      · subst ep2; rw [if_pos rfl] at hp; cases hp
        exact h j q _ _ (by omega) h2 (by omega) ha hq
      · rw [if_neg ep2] at hp
        exact h p q x y h1 h2 (by omega) hp hq
theorem swap_perm {L : List Int} {j : Nat} {a b : Int} (ha : L[j]? = some a) (hb : L[j + 1]? = some b) : ((L.set (j + 1) a).set j b).Perm L := by
  have hd1 := drop_of ha
  have hd2 := drop_of hb
  have e : L = L.take j ++ a :: b :: L.drop (j + 2) := by
    have := (List.take_append_drop j L).symm
    rw [hd1, hd2] at this; exact this
  have l1 := (List.getElem?_eq_some_iff.1 ha).1
  have hl : (L.take j).length = j := by rw [List.length_take]; omega
  have e2 : (L.set (j + 1) a).set j b = L.take j ++ b :: a :: L.drop (j + 2) := by
    refine List.ext_getElem? fun k => ?_
    rw [swap_get ha hb]
    by_cases h1 : k = j
    · subst h1; rw [if_pos rfl, List.getElem?_append_right (by omega), hl]; simp
    · rw [if_neg h1]
      by_cases h2 : k = j + 1
      · subst h2; rw [if_pos rfl, List.getElem?_append_right (by omega), hl]; simp
      · rw [if_neg h2]
        rcases Nat.lt_or_ge k j with hlt | hge
        · rw [List.getElem?_append_left (by omega), List.getElem?_take, if_pos hlt]
        · rw [List.getElem?_append_right (by omega), hl]
          obtain ⟨m, rfl⟩ : ∃ m, k = j + 2 + m := ⟨k - (j + 2), by omega⟩
          rw [show j + 2 + m - j = m + 1 + 1 by omega, List.getElem?_cons_succ, List.getElem?_cons_succ, List.getElem?_drop]
  rw [e2]
  conv => rhs; rw [e]
  exact (List.Perm.swap a b _).append_left _
theorem Srt.pairwise {L : List Int} (h : Srt L L.length) : L.Pairwise (· ≤ ·) := by
  rw [List.pairwise_iff_getElem]
  intro i j hi hj hij
  exact h i j _ _ hij hj (List.getElem?_eq_getElem hi) (List.getElem?_eq_getElem hj)

set_option maxHeartbeats 8000000 in
set_option maxRecDepth 100000 in
theorem insert_any {W w : World} {g o n cap : Nat} {xs : List Int} {R : Hp} (H : Sat W w (Hp.own SZ 1 (.slice (some ⟨g, o, none⟩) n cap) xs * R)) (hn : n = xs.length) (hl : xs.length ≤ 1000) :
    Calls Try.prog 21 #[.slice (some ⟨g, o, none⟩) n cap, .int .i64 0, .int .i64 n] w fun e w' => (∃ u, e = .returned u) ∧ ∃ ys, ys.Perm xs ∧ ys.Pairwise (· ≤ ·) ∧ Sat W w' (Hp.own SZ 1 (.slice (some ⟨g, o, none⟩) n cap) ys * R) := by
  subst hn
  have HH := Lib.hid H
  clear H
  go_enter Try.func21, Try.ntmps21
  go_wp2_with fail
  go_loopw [6] (fun i wr => ∃ (k : Nat) (L : List Int), 1 ≤ k ∧ k ≤ xs.length + 1 ∧ i = .int .i64 k ∧ L.Perm xs ∧ Srt L (min k xs.length) ∧ Sat W wr (Hp.own SZ 1 (.slice (some ⟨g, o, none⟩) xs.length cap) L * R)) (fun i _ => xs.length + 1 - (intOf i).toNat)
  case atStart => exact ⟨1, xs, Nat.le_refl _, by omega, rfl, List.Perm.refl _, fun p q x y h1 h2 => by omega, HH.out⟩
  case round =>
    obtain ⟨k, L, hk1, hk, rfl, hp, hs, hsat⟩ := hrel
    by_cases hlt : k < xs.length
    · have hll := hp.length_eq
      rw [Nat.min_eq_left (by omega)] at hs
      have HI := Lib.hid hs.ins
      have HP := Lib.hid hp
      have HS0 := Lib.hid hsat
      have i0 : (1 : Int) ≤ (k : Int) := by omega
      have i1 : (k : Int) < (xs.length : Int) := by omega
      clear hp hs hsat hll
      go_wp2_with fail
      obtain ⟨wo, rfl⟩ : ∃ wo : World, wo = wr := ⟨_, rfl⟩
      go_loopw [7] (fun j wr => ∃ (q : Nat) (L : List Int), q ≤ k ∧ j = .int .i64 q ∧ L.Perm xs ∧ Ins L k q ∧ Sat W wr (Hp.own SZ 1 (.slice (some ⟨g, o, none⟩) xs.length cap) L * R)) (fun j _ => (intOf j).toNat)
      case atStart => exact ⟨k, L, Nat.le_refl _, rfl, HP.out, HI.out, HS0.out⟩
      case round =>
        obtain ⟨q, L, hq, rfl, hp, hin, hsat⟩ := hrel
        have hll := hp.length_eq
        by_cases hq0 : q = 0
        · subst hq0
          have HD := Lib.hid (hin.done (.inl rfl))
          have HP := Lib.hid hp
          have HS := Lib.hid hsat
          have hd : decide ((0 : Int) < 0) = false := by decide
          clear hin hp hsat hll
          go_wp2_with fail
          go_quiet (fail)
          go_wp2_with fail
          go_roundw
          case rel => exact ⟨k + 1, L, by omega, by omega, by go_num, HP.out, by have := HD.out; intro a b x y h1 h2; exact this a b x y h1 (by omega), HS.out.drewN _⟩
          case measure => simp [intOf]; omega
        · obtain ⟨q, rfl⟩ : ∃ q', q = q' + 1 := ⟨q - 1, by omega⟩
          rw [show ((q + 1 : Nat) : Int) = (q : Int) + 1 from rfl]
          obtain ⟨y, hy⟩ := get_of_lt (show q + 1 < L.length by omega)
          obtain ⟨x, hx⟩ := get_of_lt (show q < L.length by omega)
          have x0 : wr.cell? ⟨g, o + q, none⟩ = some (.int .i64 x) := by have := hsat.ows.cell (i := 0) hx rfl; simpa using this
          have y0 : wr.cell? ⟨g, o + (q + 1), none⟩ = some (.int .i64 y) := by have := hsat.ows.cell (i := 0) hy rfl; simpa using this
          have j0 : (0 : Int) ≤ (q : Int) := by omega
          have j1 : (q : Int) + 1 < (xs.length : Int) := by omega
          have j2 : decide ((0 : Int) < (q : Int) + 1) = true := decide_eq_true (by omega)
          have HS := Lib.hid hsat
          have HP := Lib.hid hp
          by_cases hc : y < x
          · have hlt' : ltI y x = true := by unfold ltI; simpa using hc
            have HLS := Lib.hid (fun m => show Calls Try.prog 27 #[.int .i64 y, .int .i64 x] (wr.drewN m) (fun e w' => e = .returned (.bool true) ∧ w' = wr.drewN m) from by have := less_any y x (wr.drewN m); rwa [hlt'] at this)
            have HIN := Lib.hid (hin.swap (by omega) hx hy hc)
            have HPM := Lib.hid ((swap_perm hx hy).trans hp)
            have HXY := Lib.hid (And.intro hx hy)
            clear hin hp hsat hlt' hx hy
            go_wp2_with fail
            go_quiet ((go_at_call 27; exact Calls.quiet_of_same (HLS.out _)))
            go_wp2_with fail
            refine region_in (W := W) (HS.out.drewN _) fun w1 H1 => ?_
            have hx1 := (H1.cell1 HXY.out.1 rfl).1
            have hy1 := (H1.cell1 HXY.out.2 rfl).1
            obtain ⟨St, hne, F, hF, hFC⟩ := fact_class (fun w' => w'.cell? ⟨g, o + q, none⟩ = some (.int .i64 x) ∧ w'.cell? ⟨g, o + (q + 1), none⟩ = some (.int .i64 y)) (w := w1) ⟨hx1, hy1⟩
            have g0 : ∀ s, (F s).cell? ⟨g, o + q, none⟩ = some (.int .i64 x) := fun s => (hF s).1
            have g1 : ∀ s, (F s).cell? ⟨g, o + (q + 1), none⟩ = some (.int .i64 y) := fun s => (hF s).2
            obtain ⟨Stt, hnet, Ft, hFt, hFCt⟩ := fact_class (fun _ => True) (w := w1) trivial
            have HFC := Lib.hid (And.intro hFC hFCt)
            have HL := Lib.hid (show q + 1 < L.length ∧ q < L.length from ⟨(List.getElem?_eq_some_iff.1 HXY.out.2).1, (List.getElem?_eq_some_iff.1 HXY.out.1).1⟩)
            clear hF hFC hFt hFCt hx1 hy1 x0 y0
            refine wp_region_ord (fun j => j == 15) 16 [0, 1, 2, 3, 4, 5, 6, 7, 8, 9, 10, 11, 12, 13, 14, 15] (stC (fun w' => Sat W w' (Hp.own SZ 1 (.slice (some ⟨g, o, none⟩) xs.length cap) L * R)) (fun w' => Sat W w' (Hp.own SZ 1 (.slice (some ⟨g, o, none⟩) xs.length cap) (L.set (q + 1) x) * R))) (by kernel_rfl) (by kernel_rfl) (H1.drawn _) ?_
            refine gWalk_val (fun w' => ∃ s, w' = Ft s) rfl rfl rfl rfl (fun us w' h => HFC.out.2 _ trivial) (fun K hK => ?_); simp only [List.getElem_toArray, List.getElem_cons_zero, List.getElem_cons_succ]; go_big_quiet_op; refine hK _ ?_; clear hK K
            refine gWalk_val (fun w' => ∃ s, w' = Ft s) rfl rfl rfl rfl (fun us w' h => HFC.out.2 _ trivial) (fun K hK => ?_); simp only [List.getElem_toArray, List.getElem_cons_zero, List.getElem_cons_succ]; go_big_quiet_op; refine hK _ ?_; clear hK K
            refine gWalk_val (fun w' => ∃ s, w' = Ft s) rfl rfl rfl rfl (fun us w' h => HFC.out.2 _ trivial) (fun K hK => ?_); simp only [List.getElem_toArray, List.getElem_cons_zero, List.getElem_cons_succ]; go_big_quiet_op; refine hK _ ?_; clear hK K
            refine gWalk_val (fun w' => ∃ s, w' = Ft s) rfl rfl rfl rfl (fun us w' h => HFC.out.2 _ trivial) (fun K hK => ?_); simp only [List.getElem_toArray, List.getElem_cons_zero, List.getElem_cons_succ]; go_big_quiet_op; refine hK _ ?_; clear hK K
            refine gWalk_val (fun w' => ∃ s, w' = Ft s) rfl rfl rfl rfl (fun us w' h => HFC.out.2 _ trivial) (fun K hK => ?_); simp only [List.getElem_toArray, List.getElem_cons_zero, List.getElem_cons_succ]; go_big_quiet_op; refine hK _ ?_; clear hK K
            refine gWalk_val (fun w' => ∃ s, w' = Ft s) rfl rfl rfl rfl (fun us w' h => HFC.out.2 _ trivial) (fun K hK => ?_); simp only [List.getElem_toArray, List.getElem_cons_zero, List.getElem_cons_succ]; go_big_quiet_op; refine hK _ ?_; clear hK K
            refine gWalk_val (fun w' => ∃ s, w' = Ft s) rfl rfl rfl rfl (fun us w' h => HFC.out.2 _ trivial) (fun K hK => ?_); simp only [List.getElem_toArray, List.getElem_cons_zero, List.getElem_cons_succ]; go_big_quiet_op; refine hK _ ?_; clear hK K
            refine gWalk_val (fun w' => ∃ s, w' = Ft s) rfl rfl rfl rfl (fun us w' h => HFC.out.2 _ trivial) (fun K hK => ?_); simp only [List.getElem_toArray, List.getElem_cons_zero, List.getElem_cons_succ]; go_big_quiet_op; refine hK _ ?_; clear hK K
            refine gWalk_val (fun w' => ∃ s, w' = Ft s) rfl rfl rfl rfl (fun us w' h => HFC.out.2 _ trivial) (fun K hK => ?_); simp only [List.getElem_toArray, List.getElem_cons_zero, List.getElem_cons_succ]; go_big_quiet_op; refine hK _ ?_; clear hK K
            refine gWalk_val0 (fun w' => ∃ s, w' = F s) rfl rfl rfl rfl (by kernel_rfl) (fun w' h => HFC.out.1 _ ⟨(Sat.cell1 h HXY.out.1 rfl).1, (Sat.cell1 h HXY.out.2 rfl).1⟩) (fun K hK => ?_); simp only [List.getElem_toArray, List.getElem_cons_zero, List.getElem_cons_succ]; go_big_quiet_op; refine hK _ ?_; clear hK K
            refine gWalk_val (fun w' => ∃ s, w' = Ft s) rfl rfl rfl rfl (fun us w' h => HFC.out.2 _ trivial) (fun K hK => ?_); simp only [List.getElem_toArray, List.getElem_cons_zero, List.getElem_cons_succ]; go_big_quiet_op; refine hK _ ?_; clear hK K
            refine gWalk_val (fun w' => ∃ s, w' = Ft s) rfl rfl rfl rfl (fun us w' h => HFC.out.2 _ trivial) (fun K hK => ?_); simp only [List.getElem_toArray, List.getElem_cons_zero, List.getElem_cons_succ]; go_big_quiet_op; refine hK _ ?_; clear hK K
            refine gWalk_val (fun w' => ∃ s, w' = Ft s) rfl rfl rfl rfl (fun us w' h => HFC.out.2 _ trivial) (fun K hK => ?_); simp only [List.getElem_toArray, List.getElem_cons_zero, List.getElem_cons_succ]; go_big_quiet_op; refine hK _ ?_; clear hK K
            refine gWalk_val0 (fun w' => ∃ s, w' = F s) rfl rfl rfl rfl (by kernel_rfl) (fun w' h => HFC.out.1 _ ⟨(Sat.cell1 h HXY.out.1 rfl).1, (Sat.cell1 h HXY.out.2 rfl).1⟩) (fun K hK => ?_); simp only [List.getElem_toArray, List.getElem_cons_zero, List.getElem_cons_succ]; go_big_quiet_op; refine hK _ ?_; clear hK K
            refine gWalk_val (fun w' => ∃ s, w' = Ft s) rfl rfl rfl rfl (fun us w' h => HFC.out.2 _ trivial) (fun K hK => ?_); simp only [List.getElem_toArray, List.getElem_cons_zero, List.getElem_cons_succ]; go_big_quiet_op; refine hK _ ?_; clear hK K
            refine gWalk_st (fun w => w.setCell ⟨g, o + (q + 1), none⟩ (.int .i64 x)) rfl rfl rfl (fun w' h => ?_) (fun w' h => Sat.put1 h SZ_len HL.out.1 rfl) ?_
            · obtain ⟨c1, c2⟩ := Sat.cell1 h HXY.out.2 rfl
              simp only [List.getElem_toArray, List.getElem_cons_zero, List.getElem_cons_succ]
              go_simp
            simp only [List.getElem_toArray, List.getElem_cons_zero, List.getElem_cons_succ, Act.put, List.setIfInBounds_toArray, List.set_cons_succ, List.set_cons_zero]
            intro w2 H2
            have H3 : Sat W w2 (Hp.own SZ 1 (.slice (some ⟨g, o, none⟩) xs.length cap) (L.set (q + 1) x) * R) := H2
            obtain ⟨d1, d2⟩ := H3.cell1 (j := q) (x := x) (by rw [List.getElem?_set, if_neg (by omega)]; exact HXY.out.1) rfl
            have H4 := Lib.hid (H3.put1 SZ_len (j := q) (by rw [List.length_set]; exact HL.out.2) (u := .int .i64 y) (y := y) rfl)
            clear H2 H3 H1 g0 g1
            simp only [List.drop_succ_cons, List.drop_zero]
            go_wp2_with fail
            go_roundw
            case rel => exact ⟨q, _, by omega, by go_num, HPM.out, HIN.out, H4.out⟩
            case measure => simp [intOf]
          · have hlt' : ltI y x = false := by unfold ltI; simpa using hc
            have HLS := Lib.hid (fun m => show Calls Try.prog 27 #[.int .i64 y, .int .i64 x] (wr.drewN m) (fun e w' => e = .returned (.bool false) ∧ w' = wr.drewN m) from by have := less_any y x (wr.drewN m); rwa [hlt'] at this)
            have HD := Lib.hid (hin.done (.inr ⟨x, y, hx, hy, by omega⟩))
            clear hin hp hsat hlt' hx hy
            go_wp2_with fail
            go_quiet ((go_at_call 27; exact Calls.quiet_of_same (HLS.out _)))
            go_wp2_with fail
            go_roundw
            case rel => exact ⟨k + 1, L, by omega, by omega, by go_num, HP.out, by have := HD.out; intro a b x y h1 h2; exact this a b x y h1 (by omega), HS.out.drewN _⟩
            case measure => simp [intOf]; omega
    · rw [Nat.min_eq_right (by omega)] at hs
      have hll := hp.length_eq
      have HE := Lib.hid (show L.Pairwise (· ≤ ·) from Srt.pairwise (by rw [hll]; exact hs))
      have HP := Lib.hid hp
      have HS := Lib.hid hsat
      clear hp hs hsat hll
      go_wp2_with fail
      go_end0
      exact ⟨⟨_, rfl⟩, L, HP.out, HE.out, HS.out⟩

theorem sort_uniq {xs ys : List Int} (hp : xs.Perm ys) (hx : xs.Pairwise (· ≤ ·)) (hy : ys.Pairwise (· ≤ ·)) : xs = ys := hp.eq_of_pairwise (fun a b _ _ h1 h2 => Int.le_antisymm h1 h2) hx hy

set_option maxHeartbeats 8000000 in
set_option maxRecDepth 100000 in
theorem len64_any (n : Nat) (w : World) (hn : n ≤ 12) : Calls Try.prog 31 #[.int .u64 n] w fun e w' => (∃ r : Int, e = .returned (.int .i64 r)) ∧ w = w' := by
  rcases (by omega : n = 0 ∨ n = 1 ∨ n = 2 ∨ n = 3 ∨ n = 4 ∨ n = 5 ∨ n = 6 ∨ n = 7 ∨ n = 8 ∨ n = 9 ∨ n = 10 ∨ n = 11 ∨ n = 12) with rfl | rfl | rfl | rfl | rfl | rfl | rfl | rfl | rfl | rfl | rfl | rfl | rfl
  all_goals
    go_enter Try.func31, Try.ntmps31
    go_wp2_with fail
    go_ret
    exact ⟨⟨_, rfl⟩, rfl⟩
theorem len_any (n : Nat) (w : World) (hn : n ≤ 12) : Calls Try.prog 18 #[.int .u64 n] w fun e w' => (∃ r : Int, e = .returned (.int .i64 r)) ∧ w = w' := by
  have HL := Lib.hid (fun w => len64_any n w hn)
  go_enter Try.func18, Try.ntmps18
  go_wp2_with (go_at_call 31; (with_reducible refine (HL.out _).mono ?_); rintro e w' ⟨⟨r, rfl⟩, rfl⟩)
  go_ret
  exact ⟨⟨_, rfl⟩, rfl⟩

set_option maxHeartbeats 4000000 in
theorem pdq_any {W w : World} {g o n cap : Nat} {xs : List Int} {R : Hp} (l : Int) (H : Sat W w (Hp.own SZ 1 (.slice (some ⟨g, o, none⟩) n cap) xs * R)) (hn : n = xs.length) (hl : xs.length ≤ 12) :
    Calls Try.prog 17 #[.slice (some ⟨g, o, none⟩) n cap, .int .i64 0, .int .i64 n, .int .i64 l] w fun e w' => (∃ u, e = .returned u) ∧ ∃ ys, ys.Perm xs ∧ ys.Pairwise (· ≤ ·) ∧ Sat W w' (Hp.own SZ 1 (.slice (some ⟨g, o, none⟩) n cap) ys * R) := by
  have HI := Lib.hid (insert_any H hn (by omega))
  have h1 : (n : Int) ≤ 12 := by omega
  have h0 : (0 : Int) ≤ (n : Int) := by omega
  clear H hn hl
  go_enter Try.func17, Try.ntmps17
  go_wp2_with fail
  refine wp_loop_rounds 1 ?_
  rw [rounds_succ]
  go_wp2_with (go_at_call 21; (with_reducible refine HI.out.mono ?_); rintro e w' ⟨⟨u, rfl⟩, hX⟩; have HX := Lib.hid hX; clear hX)
  refine bodyPost_ret (results_none rfl _ _ _) rfl ?_
  exact ⟨⟨_, rfl⟩, HX.out⟩

set_option maxHeartbeats 4000000 in
theorem sort_any {W w : World} {g o n cap : Nat} {xs : List Int} {R : Hp} (H : Sat W w (Hp.own SZ 1 (.slice (some ⟨g, o, none⟩) n cap) xs * R)) (hn : n = xs.length) (hl : xs.length ≤ 12) :
    Calls Try.prog 13 #[.slice (some ⟨g, o, none⟩) n cap] w fun e w' => (∃ u, e = .returned u) ∧ ∃ ys, ys.Perm xs ∧ ys.Pairwise (· ≤ ·) ∧ Sat W w' (Hp.own SZ 1 (.slice (some ⟨g, o, none⟩) n cap) ys * R) := by
  have HI := Lib.hid (fun l => pdq_any l H hn hl)
  have HL := Lib.hid (fun w => len_any n w (by omega))
  have h1 : (n : Int) ≤ 12 := by omega
  have h0 : (0 : Int) ≤ (n : Int) := by omega
  clear H hn hl
  go_enter Try.func13, Try.ntmps13
  go_wp2_with (first | (go_at_call 18; (with_reducible refine (HL.out _).mono ?_); rintro e w' ⟨⟨r, rfl⟩, rfl⟩) | (go_at_call 17; (with_reducible refine (HI.out _).mono ?_); rintro e w' ⟨⟨u, rfl⟩, hX⟩; have HX := Lib.hid hX; clear hX))
  go_end0
  exact ⟨⟨_, rfl⟩, HX.out⟩
end Go.Proofs.Yteejbaindbiimaa
