/- The laws' own word of it; the last one of both. -/
import Derived.Test.YtghnahckopokhaaCA3
namespace Go.Proofs.Ytghnahckopokhaa
open Go.RowKit
set_option linter.unusedVariables false
namespace Chn
set_option maxHeartbeats 4000000 in
theorem bcheck_any {W : World} {v : Value} {l : List (Int × Int)} (h : SlS FK 2 W v l) :
    Calls Try.prog 28 #[v] W fun e w' => (∃ c : Int, e = .returned (.int .i64 c) ∧ (c = 0 ↔ OkC l)) ∧ Below W.heap.size W w' := by
  obtain ⟨a, cap, rfl, hm⟩ := h.form
  have HS := Lib.hid h
  clear h
  by_cases h1 : 40 < l.length
  · have HN := Lib.hid (show ¬ OkC l from fun ok => by have := ok.few; omega)
    have h1' : (40 : Int) < (l.length : Int) := by omega
    go_enter Try.func28, Try.ntmps28
    go_wp2_with fail
    all_goals first | (exfalso; omega) | skip
    go_ret
    exact ⟨⟨1, rfl, by simp [HN.out]⟩, Below.refl _ _⟩
  have h2 : (l.length : Int) ≤ 40 := by omega
  by_cases h3 : l.length = 0
  · have HN := Lib.hid (show ¬ OkC l from fun ok => by have := ok.one; omega)
    have hz : ((l.length : Int) == 0) = true := by rw [cast_beq0]; exact beq_iff_eq.2 h3
    clear h3
    go_enter Try.func28, Try.ntmps28
    go_wp2_with fail
    all_goals first | (exfalso; omega) | skip
    go_ret
    exact ⟨⟨5, rfl, by simp [HN.out]⟩, Below.refl _ _⟩
  have hz : ((l.length : Int) == 0) = false := by rw [cast_beq0]; exact beq_eq_false_iff_ne.2 h3
  have HC := Lib.hid (show 0 < l.length ∧ l.length ≤ 40 by omega)
  obtain ⟨z, hz0⟩ := get_of_lt HC.out.1
  obtain ⟨b0, off, rfl, hlb, hcz⟩ := HS.out.el hz0
  have c0 : W.cell? ⟨b0, off, none⟩ = some (.int .i64 z.1) := by have := hcz 0 _ rfl; simpa using this
  have c1 : W.cell? ⟨b0, off + 1, none⟩ = some (.int .i64 z.2) := by have := hcz 1 _ rfl; simpa using this
  have hl0 : (0 : Int) < (l.length : Int) := by have := HC.out; omega
  have hl1 : (0 : Int) ≠ (l.length : Int) := by omega
  have HX0 := Lib.hid hz0
  clear h1 h3 hz0 hcz
  obtain ⟨z1, z2⟩ := z
  by_cases e1 : z1 = -1
  rotate_left
  · have HN := Lib.hid (show ¬ OkC l from fun ok => by have := (ok.at HX0.out).1 rfl; simp at this; exact e1 this.1)
    have e3 : (z1 == -1) = false := by simpa using e1
    have e4 : decide (z1 = -1) = false := by simpa using e1
    have e5 : (z1 != -1) = true := by simpa using e1
    go_enter Try.func28, Try.ntmps28
    go_wp2_with fail
    all_goals first | (exfalso; omega) | skip
    go_ret
    exact ⟨⟨3, rfl, by simp [HN.out]⟩, Below.refl _ _⟩
  subst e1
  by_cases e2 : z2 = 0
  rotate_left
  · have HN := Lib.hid (show ¬ OkC l from fun ok => by have := (ok.at HX0.out).1 rfl; simp at this; exact e2 this)
    have e3 : (z2 == 0) = false := by simpa using e2
    have e4 : decide (z2 = 0) = false := by simpa using e2
    have e5 : (z2 != 0) = true := by simpa using e2
    go_enter Try.func28, Try.ntmps28
    go_wp2_with fail
    all_goals first | (exfalso; omega) | skip
    go_ret
    exact ⟨⟨3, rfl, by simp [HN.out]⟩, Below.refl _ _⟩
  subst e2
  go_enter Try.func28, Try.ntmps28
  go_wp2_with fail
  all_goals first | (exfalso; omega) | skip
  clear c0 c1
  go_loopw [3] (fun i wr => ∃ j : Nat, 1 ≤ j ∧ j ≤ l.length ∧ i = .int .i64 j ∧ OkN l j ∧ Below W.heap.size W wr) (fun i _ => l.length - (intOf i).toNat)
  case atStart => exact ⟨1, Nat.le_refl _, HC.out.1, rfl, OkN.next (n := 0) (fun i x hi => by omega) HX0.out ⟨fun _ => rfl, fun h => by omega⟩, Below.refl _ _⟩
  case round =>
    obtain ⟨j, hj1, hj, rfl, hno, hb⟩ := hrel
    by_cases hlt : j < l.length
    · obtain ⟨x, hx⟩ := get_of_lt hlt
      obtain ⟨b1, off1, hbe, hlb, hcx⟩ := (HS.out.below hb).el hx
      cases hbe
      have c0 : wr.cell? ⟨b0, off + j * 2, none⟩ = some (.int .i64 x.1) := hcx 0 _ rfl
      have c1 : wr.cell? ⟨b0, off + j * 2 + 1, none⟩ = some (.int .i64 x.2) := hcx 1 _ rfl
      have i0 : (0 : Int) ≤ (j : Int) := by omega
      have i1 : (j : Int) < (l.length : Int) := by omega
      have HB := Lib.hid hb
      have HNO := Lib.hid hno
      have HX := Lib.hid hx
      clear hb hno hx hcx
      obtain ⟨x1, x2⟩ := x
      simp only at c0 c1
      by_cases p0 : x1 < 0
      · have HN := Lib.hid (show ¬ OkC l from fun ok => by obtain ⟨p, y, q1, _⟩ := (ok.at HX.out).2 (by omega); simp only at q1; omega)
        go_wp2_with fail
        go_quiet (fail)
        go_wp2_with fail
        go_ret
        exact ⟨⟨3, rfl, by simp [HN.out]⟩, below_drewN HB.out _⟩
      · obtain ⟨p, hp⟩ := Int.eq_ofNat_of_zero_le (show 0 ≤ x1 by omega)
        subst hp
        have p1 : (0 : Int) ≤ (p : Int) := by omega
        have p2 : decide ((p : Int) < 0) = false := decide_eq_false (by omega)
        clear p0
        by_cases pj : j ≤ p
        · have HN := Lib.hid (show ¬ OkC l from fun ok => by obtain ⟨p', y, q1, q2, _⟩ := (ok.at HX.out).2 (by omega); simp only at q1; omega)
          have pj1 : (j : Int) ≤ (p : Int) := by omega
          have pj3 : decide (j ≤ p) = true := decide_eq_true pj
          go_wp2_with fail
          go_quiet (fail)
          go_wp2_with fail
          go_ret
          exact ⟨⟨3, rfl, by simp [HN.out]⟩, below_drewN HB.out _⟩
        · have pj1 : (p : Int) < (j : Int) := by omega
          have pj2 : decide ((j : Int) ≤ (p : Int)) = false := decide_eq_false (by omega)
          have pj3 : decide (j ≤ p) = false := decide_eq_false pj
          have pj4 : p < j := by omega
          obtain ⟨y, hy⟩ := get_of_lt (show p < l.length by omega)
          obtain ⟨b1, off1, hbe, _, hcy⟩ := (HS.out.below HB.out).el hy
          cases hbe
          have d1 : wr.cell? ⟨b0, off + p * 2 + 1, none⟩ = some (.int .i64 y.2) := hcy 1 _ rfl
          have p3 : (p : Int) < (l.length : Int) := by omega
          by_cases hr : x2 ≤ y.2
          · have HN := Lib.hid (show ¬ OkC l from fun ok => by
              obtain ⟨p', y', q1, q2, q3, q4⟩ := (ok.at HX.out).2 (by omega)
              simp only at q1 q4
              obtain rfl : p = p' := by omega
              rw [hy] at q3; cases q3; omega)
            clear pj hy hcy
            go_wp2_with fail
            go_quiet (fail)
            go_wp2_with fail
            go_ret
            exact ⟨⟨3, rfl, by simp [HN.out]⟩, below_drewN HB.out _⟩
          · have hr2 : y.2 < x2 := by omega
            have hr3 : decide (x2 ≤ y.2) = false := decide_eq_false hr
            have HN := Lib.hid (HNO.out.next HX.out ⟨fun e => by omega, fun _ => ⟨p, y, rfl, by omega, hy, hr2⟩⟩)
            clear pj hy hcy hr
            go_wp2_with fail
            go_quiet (fail)
            go_wp2_with fail
            go_roundw
            case rel => exact ⟨j + 1, by omega, by omega, by go_num, HN.out, below_drewN HB.out _⟩
            case measure => simp [intOf]; omega
    · obtain rfl : j = l.length := by omega
      have HOK := Lib.hid (hno.all HC.out.1 HC.out.2)
      have HB := Lib.hid hb
      clear hno hb
      go_wp2_with fail
      go_ret
      exact ⟨⟨0, rfl, by simp [HOK.out]⟩, HB.out⟩

theorem blocks_any {W : World} {v : Value} {l : List (Int × Int)} (h : SlS FK 2 W v l) :
    Calls Try.prog 18 #[v] W fun e w' => (∃ b, e = .returned (.bool b) ∧ (b = true ↔ OkC l)) ∧ Below W.heap.size W w' := by
  have HC := Lib.hid (bcheck_any h)
  clear h
  go_enter Try.func18, Try.ntmps18
  go_wp2_with fail
  refine HC.out.mono ?_
  rintro e w' ⟨⟨c, rfl, hc⟩, hb⟩
  have HD := Lib.hid (And.intro hc hb)
  clear hc hb
  go_wp2_with fail
  go_ret
  exact ⟨⟨c == 0, rfl, by simpa using HD.out.1⟩, HD.out.2⟩

/-- a block's parent -/
def pr (l : List (Int × Int)) (b : Nat) : Nat := match l[b]? with | some x => x.1.toNat | none => 0
theorem OkC.par {l : List (Int × Int)} (h : OkC l) {b : Nat} (hb : 0 < b) {x : Int × Int} (hx : l[b]? = some x) : x.1 = (pr l b : Int) ∧ pr l b < b ∧ ∃ y, l[pr l b]? = some y ∧ y.2 < x.2 := by
  obtain ⟨p, y, h1, h2, h3, h4⟩ := h.rest b x hb hx
  have e : pr l b = p := by unfold pr; rw [hx]; simp [h1]
  rw [e]; exact ⟨h1, h2, y, h3, h4⟩
/-- c is b, or its parent, and so on -/
inductive Anc (l : List (Int × Int)) : Nat → Nat → Prop
  | self (b : Nat) : Anc l b b
  | step {c b : Nat} : 0 < b → Anc l c (pr l b) → Anc l c b
theorem OkC.prlt {l : List (Int × Int)} (h : OkC l) {b : Nat} (hb : 0 < b) (hl : b < l.length) : pr l b < b := by
  obtain ⟨x, hx⟩ := get_of_lt hl
  exact (h.par hb hx).2.1
theorem OkC.anc_le {l : List (Int × Int)} (h : OkC l) {c b : Nat} (ha : Anc l c b) : b < l.length → c ≤ b := by
  induction ha with
  | self => intro _; exact Nat.le_refl _
  | step hb _ ih => intro hl; have := h.prlt hb hl; have := ih (by omega); omega
theorem OkC.anc_up {l : List (Int × Int)} (h : OkC l) {c b : Nat} (ha : Anc l c b) (hl : b < l.length) (hne : c < b) : Anc l c (pr l b) := by
  cases ha with
  | self => omega
  | step hb h2 => exact h2
theorem Anc.trans {l : List (Int × Int)} {c b a : Nat} (h : Anc l c b) (h2 : Anc l b a) : Anc l c a := by
  induction h2 with
  | self => exact h
  | step hb _ ih => exact .step hb ih
theorem OkC.anc_zero {l : List (Int × Int)} (h : OkC l) : ∀ (n b : Nat), b ≤ n → b < l.length → Anc l 0 b
  | _, 0, _, _ => .self (l := l) 0
  | 0, b + 1, hn, _ => by omega
  | n + 1, b + 1, hn, hl => .step (by omega) (h.anc_zero n _ (by have := h.prlt (b := b + 1) (Nat.succ_pos b) hl; omega) (by have := h.prlt (b := b + 1) (Nat.succ_pos b) hl; omega))
/-- two of one line: the smaller one is below the other -/
theorem OkC.line {l : List (Int × Int)} (h : OkC l) {c d b : Nat} (h1 : Anc l c b) (h2 : Anc l d b) (hl : b < l.length) (hcd : c ≤ d) : Anc l c d := by
  induction h2 with
  | self => exact h1
  | step hb h3 ih =>
    have := h.prlt hb hl
    cases h1 with
    | self => have := h.anc_le h3 (by omega); omega
    | step _ h4 => exact ih h4 (by omega)

end Chn
end Go.Proofs.Ytghnahckopokhaa
