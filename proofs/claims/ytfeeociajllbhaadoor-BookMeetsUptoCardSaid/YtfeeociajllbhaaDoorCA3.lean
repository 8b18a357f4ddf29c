/- May blocks be? -/
import Derived.Test.YtfeeociajllbhaaDoorCA2
import Derived.BigRegion
namespace Go.Proofs.YtfeeociajllbhaaDoor
open Go.RowKit
set_option linter.unusedVariables false
namespace Chn
/-- blocks that may be -/
structure OkC (l : List (Int × Int)) : Prop where
  one : 0 < l.length
  few : l.length ≤ 40
  first : l[0]? = some (-1, 0)
  rest : ∀ (i : Nat) (x : Int × Int), 0 < i → l[i]? = some x → ∃ (p : Nat) (y : Int × Int), x.1 = (p : Int) ∧ p < i ∧ l[p]? = some y ∧ y.2 < x.2

/-- so far -/
def Ok1 (l : List (Int × Int)) (i : Nat) (x : Int × Int) : Prop := (i = 0 → x = (-1, 0)) ∧ (0 < i → ∃ (p : Nat) (y : Int × Int), x.1 = (p : Int) ∧ p < i ∧ l[p]? = some y ∧ y.2 < x.2)
def OkN (l : List (Int × Int)) (n : Nat) : Prop := ∀ (i : Nat) (x : Int × Int), i < n → l[i]? = some x → Ok1 l i x
theorem OkN.next {l : List (Int × Int)} {n : Nat} (h : OkN l n) {x : Int × Int} (hx : l[n]? = some x) (h1 : Ok1 l n x) : OkN l (n + 1) := by
  intro i y hi hy
  by_cases e : i = n
  · subst e; rw [hx] at hy; cases hy; exact h1
  · exact h i y (by omega) hy
theorem OkN.all {l : List (Int × Int)} (h : OkN l l.length) (h0 : 0 < l.length) (h1 : l.length ≤ 40) : OkC l := by
  refine ⟨h0, h1, ?_, fun i x hi hx => (h i x (List.getElem?_eq_some_iff.1 hx).1 hx).2 hi⟩
  obtain ⟨x, hx⟩ := get_of_lt h0
  rw [hx, (h 0 x h0 hx).1 rfl]
theorem OkC.at {l : List (Int × Int)} (h : OkC l) {i : Nat} {x : Int × Int} (hx : l[i]? = some x) : Ok1 l i x := by
  refine ⟨fun e => ?_, fun hi => h.rest i x hi hx⟩
  subst e; rw [h.first] at hx; cases hx; rfl

set_option maxHeartbeats 4000000 in
theorem check_any {W : World} {v : Value} {l : List (Int × Int)} (h : SlS FK 2 W v l) :
    Calls Tryd.prog 21 #[v] W fun e w' => (∃ c : Int, e = .returned (.int .i64 c) ∧ (c = 0 ↔ OkC l)) ∧ Below W.heap.size W w' := by
  obtain ⟨a, cap, rfl, hm⟩ := h.form
  have HS := Lib.hid h
  clear h
  by_cases h1 : 40 < l.length
  · have HN := Lib.hid (show ¬ OkC l from fun ok => by have := ok.few; omega)
    have h1' : (40 : Int) < (l.length : Int) := by omega
    go_enter Tryd.func21, Tryd.ntmps21
    go_wp2_with fail
    all_goals first | (exfalso; omega) | skip
    go_ret
    exact ⟨⟨1, rfl, by simp [HN.out]⟩, Below.refl _ _⟩
  have h2 : (l.length : Int) ≤ 40 := by omega
  by_cases h3 : l.length = 0
  · have HN := Lib.hid (show ¬ OkC l from fun ok => by have := ok.one; omega)
    have hz : ((l.length : Int) == 0) = true := by rw [cast_beq0]; exact beq_iff_eq.2 h3
    clear h3
    go_enter Tryd.func21, Tryd.ntmps21
    go_wp2_with fail
    all_goals first | (exfalso; omega) | skip
    go_ret
    exact ⟨⟨5, rfl, by simp [HN.out]⟩, Below.refl _ _⟩
  have hz : ((l.length : Int) == 0) = false := by rw [cast_beq0]; exact beq_eq_false_iff_ne.2 h3
  have HC := Lib.hid (show 0 < l.length ∧ l.length ≤ 40 by omega)
  clear h1 h3
  go_enter Tryd.func21, Tryd.ntmps21
  go_wp2_with fail
  all_goals first | (exfalso; omega) | skip
  go_loopw [13] (fun i wr => ∃ j : Nat, j ≤ l.length ∧ i = .int .i64 j ∧ OkN l j ∧ Below W.heap.size W wr) (fun i _ => l.length - (intOf i).toNat)
  case atStart => exact ⟨0, Nat.zero_le _, rfl, fun i x hi => by omega, Below.refl _ _⟩
  case round =>
    obtain ⟨j, hj, rfl, hno, hb⟩ := hrel
    by_cases hlt : j < l.length
    · obtain ⟨x, hx⟩ := get_of_lt hlt
      obtain ⟨b0, off, rfl, hlb, hcx⟩ := (HS.out.below hb).el hx
      have c0 : wr.cell? ⟨b0, off + j * 2, none⟩ = some (.int .i64 x.1) := hcx 0 _ rfl
      have c1 : wr.cell? ⟨b0, off + j * 2 + 1, none⟩ = some (.int .i64 x.2) := hcx 1 _ rfl
      have i0 : (0 : Int) ≤ (j : Int) := by omega
      have i1 : (j : Int) < (l.length : Int) := by omega
      have HB := Lib.hid hb
      have HNO := Lib.hid hno
      have HX := Lib.hid hx
      clear hb hno hx hcx
      go_wp2_with fail
      refine wp_world (fun w2 => Below W.heap.size W w2 ∧ w2.cell? ⟨wr.heap.size, 0, none⟩ = some (.int .i64 x.1) ∧ w2.cell? ⟨wr.heap.size, 1, none⟩ = some (.int .i64 x.2)) ⟨HB.out.trans ((below_alloc wr _).mono HB.out.size), by rw [World.cell?_alloc_at _ _ _ _ rfl]; rfl, by rw [World.cell?_alloc_at _ _ _ _ rfl]; rfl⟩ ?_
      rintro w2 ⟨hb2, t0, t1⟩
      generalize wr.heap.size = T at *
      clear c0 c1 HB
      have HB := Lib.hid hb2
      clear hb2
      by_cases hj0 : j = 0
      · subst hj0
        by_cases e : x = (-1, 0)
        · subst e
          have HN := Lib.hid (HNO.out.next HX.out ⟨fun _ => rfl, fun h => by omega⟩)
          go_wp2_with fail
          go_quiet (fail)
          go_wp2_with fail
          go_roundw
          case rel => exact ⟨1, by omega, by go_num, HN.out, below_drewN HB.out _⟩
          case measure => simp [intOf]; omega
        · have HN := Lib.hid (show ¬ OkC l from fun ok => e ((ok.at HX.out).1 rfl))
          obtain ⟨x1, x2⟩ := x
          by_cases e1 : x1 = -1
          · subst e1
            have e2 : ¬ x2 = 0 := fun h => e (by rw [h])
            have e3 : (x2 == 0) = false := by simpa using e2
            have e4 : decide (x2 = 0) = false := by simpa using e2
            clear e
            go_wp2_with fail
            go_quiet (fail)
            go_wp2_with fail
            go_ret
            exact ⟨⟨3, rfl, by simp [HN.out]⟩, below_drewN HB.out _⟩
          · have e3 : (x1 == -1) = false := by simpa using e1
            have e4 : decide (x1 = -1) = false := by simpa using e1
            clear e
            go_wp2_with fail
            go_quiet (fail)
            go_wp2_with fail
            go_ret
            exact ⟨⟨3, rfl, by simp [HN.out]⟩, below_drewN HB.out _⟩
      · have hj1 : ((j : Int) == 0) = false := by simpa using hj0
        have hj2 : decide ((0 : Int) < (j : Int)) = true := decide_eq_true (by omega)
        have hj3 : (0 : Int) < (j : Int) := by omega
        have hj4 : decide (0 < j) = true := decide_eq_true (by omega)
        have hj5 : 0 < j := by omega
        by_cases p0 : x.1 < 0
        · have HN := Lib.hid (show ¬ OkC l from fun ok => by obtain ⟨p, y, q1, _⟩ := (ok.at HX.out).2 (by omega); omega)
          clear hj0
          go_wp2_with fail
          go_quiet (fail)
          go_wp2_with fail
          go_ret
          exact ⟨⟨3, rfl, by simp [HN.out]⟩, below_drewN HB.out _⟩
        · obtain ⟨p, hp⟩ := Int.eq_ofNat_of_zero_le (show 0 ≤ x.1 by omega)
          obtain ⟨x1, x2⟩ := x
          simp only at hp t0 t1 p0
          subst hp
          have p1 : (0 : Int) ≤ (p : Int) := by omega
          have p2 : decide ((p : Int) < 0) = false := decide_eq_false (by omega)
          clear p0
          by_cases pj : j ≤ p
          · have HN := Lib.hid (show ¬ OkC l from fun ok => by obtain ⟨p', y, q1, q2, _⟩ := (ok.at HX.out).2 (by omega); simp only at q1; omega)
            have pj1 : (j : Int) ≤ (p : Int) := by omega
            have pj3 : decide (j ≤ p) = true := decide_eq_true pj
            have pj4 : j ≤ p := pj
            clear hj0 pj
            go_wp2_with fail
            go_quiet (fail)
            go_wp2_with fail
            go_ret
            exact ⟨⟨3, rfl, by simp [HN.out]⟩, below_drewN HB.out _⟩
          · have pj1 : (p : Int) < (j : Int) := by omega
            have pj2 : decide ((j : Int) ≤ (p : Int)) = false := decide_eq_false (by omega)
            have pj3 : decide (j ≤ p) = false := decide_eq_false pj
            have pj4 : p < j := by omega
            obtain ⟨y, hy⟩ := get_of_lt (show p < l.length by omega)
            obtain ⟨b1, off1, hbe, _, hcy⟩ := (HS.out.below HB.out).el hy
            cases hbe
            have d1 : w2.cell? ⟨b0, off + p * 2 + 1, none⟩ = some (.int .i64 y.2) := hcy 1 _ rfl
            have p3 : (p : Int) < (l.length : Int) := by omega
            by_cases hr : x2 ≤ y.2
            · have HN := Lib.hid (show ¬ OkC l from fun ok => by
                obtain ⟨p', y', q1, q2, q3, q4⟩ := (ok.at HX.out).2 (by omega)
                simp only at q1 q4
                obtain rfl : p = p' := by omega
                rw [hy] at q3; cases q3; omega)
              clear hj0 pj hy hcy
              go_wp2_with fail
              go_quiet (fail)
              go_wp2_with fail
              go_ret
              exact ⟨⟨3, rfl, by simp [HN.out]⟩, below_drewN HB.out _⟩
            · have hr2 : y.2 < x2 := by omega
              have hr3 : decide (x2 ≤ y.2) = false := decide_eq_false hr
              have HN := Lib.hid (HNO.out.next HX.out ⟨fun e => absurd e hj0, fun _ => ⟨p, y, rfl, by omega, hy, hr2⟩⟩)
              clear hj0 pj hy hcy hr
              go_wp2_with fail
              go_quiet (fail)
              go_wp2_with fail
              go_roundw
              case rel => exact ⟨j + 1, by omega, by go_num, HN.out, below_drewN HB.out _⟩
              case measure => simp [intOf]; omega
    · obtain rfl : j = l.length := by omega
      have HOK := Lib.hid (hno.all HC.out.1 HC.out.2)
      have HB := Lib.hid hb
      clear hno hb
      go_wp2_with fail
      go_ret
      exact ⟨⟨0, rfl, by simp [HOK.out]⟩, HB.out⟩
end Chn
end Go.Proofs.YtfeeociajllbhaaDoor
