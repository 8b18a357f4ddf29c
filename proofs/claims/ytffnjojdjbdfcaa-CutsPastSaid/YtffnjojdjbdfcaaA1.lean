/- May events be? -/
import Derived.Test.YtffnjojdjbdfcaaS11
import Derived.Test.YtffnjojdjbdfcaaS4
import Derived.Test.YtffnjojdjbdfcaaS2
import Derived.Test.YtffnjojdjbdfcaaProg
import Derived.BigRegion
import Derived.Outline
namespace Go.Proofs.Ytffnjojdjbdfcaa
open Go.RowKit Go.Shelf
set_option linter.unusedVariables false

structure Ev where
  kind : Int
  who : Int
  src : Int
abbrev FE (e : Ev) : List Value := [.int .i64 e.kind, .int .i64 e.who, .int .i64 e.src]
theorem FE_len (v : Ev) : (FE v).length = 3 := rfl
/-- may it be, at its place? -/
def Ok1 (n : Int) (l : List Ev) (i : Nat) (e : Ev) : Prop := (e.kind = 1 ∨ e.kind = 2 ∨ e.kind = 3) ∧ 0 ≤ e.who ∧ e.who < n ∧ (e.kind = 3 → ∃ (j : Nat) (s : Ev), e.src = (j : Int) ∧ j < i ∧ l[j]? = some s ∧ s.kind = 2)
def OkN (n : Int) (l : List Ev) (k : Nat) : Prop := ∀ i e, i < k → l[i]? = some e → Ok1 n l i e
structure OkE (n : Int) (l : List Ev) : Prop where
  low : 1 ≤ n
  high : n ≤ 6
  few : l.length ≤ 60
  all : ∀ i e, l[i]? = some e → Ok1 n l i e
theorem OkN.next {n : Int} {l : List Ev} {k : Nat} (h : OkN n l k) {e : Ev} (he : l[k]? = some e) (h1 : Ok1 n l k e) : OkN n l (k + 1) := by
  intro i x hi hx
  by_cases q : i = k
  · subst q; rw [he] at hx; cases hx; exact h1
  · exact h i x (by omega) hx

set_option maxHeartbeats 4000000 in
theorem wrong_any {W : World} {v : Value} {l : List Ev} (n : Int) (i : Nat) {e : Ev} (h : SlS FE 3 W v l) (he : l[i]? = some e) (hl : l.length ≤ 60) :
    Calls Try.prog 31 #[.int .i64 n, v, .int .i64 i] W fun r w' => (∃ c : Int, r = .returned (.int .i64 c) ∧ (c = 0 ↔ Ok1 n l i e)) ∧ Below W.heap.size W w' := by
  obtain ⟨a, cap, rfl, hm⟩ := h.form
  have HSW := Lib.hid (h.below (below_alloc W (.cells #[.int .i64 e.kind, .int .i64 e.who, .int .i64 e.src] 36)))
  obtain ⟨b0, off, rfl, hlb, hc⟩ := h.el he
  have c0 : W.cell? ⟨b0, off + i * 3, none⟩ = some (.int .i64 e.kind) := hc 0 _ rfl
  have c1 : W.cell? ⟨b0, off + i * 3 + 1, none⟩ = some (.int .i64 e.who) := hc 1 _ rfl
  have c2 : W.cell? ⟨b0, off + i * 3 + 2, none⟩ = some (.int .i64 e.src) := hc 2 _ rfl
  have hil := (List.getElem?_eq_some_iff.1 he).1
  have i0 : (0 : Int) ≤ (i : Int) := by omega
  have i1 : (i : Int) < (l.length : Int) := by omega
  have HB := Lib.hid (below_alloc W (.cells #[.int .i64 e.kind, .int .i64 e.who, .int .i64 e.src] 36))
  clear h he hc
  obtain ⟨kd, wh, sr⟩ := e
  simp only at c0 c1 c2 HSW HB
  by_cases kl : kd < 1
  · have kx1 : (kd != 1) = true := by simp; omega
    have kx2 : (kd != 2) = true := by simp; omega
    have kx3 : (kd != 3) = true := by simp; omega
    have HN := Lib.hid (show ¬ Ok1 n l i ⟨kd, wh, sr⟩ from fun h => by have := h.1; (try simp only at this); omega)
    go_enter Try.func31, Try.ntmps31
    go_wp2_with fail
    all_goals first | (exfalso; omega) | skip
    go_ret
    exact ⟨⟨_, rfl, by simp [HN.out]⟩, HB.out⟩
  by_cases kg : 3 < kd
  · have kx1 : (kd != 1) = true := by simp; omega
    have kx2 : (kd != 2) = true := by simp; omega
    have kx3 : (kd != 3) = true := by simp; omega
    have kx4 : 1 ≤ kd := by omega
    have HN := Lib.hid (show ¬ Ok1 n l i ⟨kd, wh, sr⟩ from fun h => by have := h.1; (try simp only at this); omega)
    go_enter Try.func31, Try.ntmps31
    go_wp2_with fail
    all_goals first | (exfalso; omega) | skip
    go_ret
    exact ⟨⟨_, rfl, by simp [HN.out]⟩, HB.out⟩
  rcases (show kd = 1 ∨ kd = 2 ∨ kd = 3 by omega) with rfl | rfl | rfl
  · clear kl kg
    by_cases w0 : wh < 0
    · have HN := Lib.hid (show ¬ Ok1 n l i ⟨1, wh, sr⟩ from fun h => by have := h.2.1; (try simp only at this); omega)
      go_enter Try.func31, Try.ntmps31
      go_wp2_with fail
      all_goals first | (exfalso; omega) | skip
      go_ret
      exact ⟨⟨_, rfl, by simp [HN.out]⟩, HB.out⟩
    by_cases w1 : n ≤ wh
    · have w2 : 0 ≤ wh := by omega
      have HN := Lib.hid (show ¬ Ok1 n l i ⟨1, wh, sr⟩ from fun h => by have := h.2.2.1; (try simp only at this); omega)
      go_enter Try.func31, Try.ntmps31
      go_wp2_with fail
      all_goals first | (exfalso; omega) | skip
      go_ret
      exact ⟨⟨_, rfl, by simp [HN.out]⟩, HB.out⟩
    have w2 : 0 ≤ wh := by omega
    have w3 : wh < n := by omega
    have w4 : decide (wh < 0) = false := decide_eq_false w0
    have w5 : decide (n ≤ wh) = false := decide_eq_false w1
    have HN := Lib.hid (show Ok1 n l i ⟨1, wh, sr⟩ from ⟨.inl rfl, w2, w3, fun h => by simp at h⟩)
    go_enter Try.func31, Try.ntmps31
    go_wp2_with fail
    all_goals first | (exfalso; omega) | skip
    go_ret
    exact ⟨⟨0, rfl, by simp [HN.out]⟩, HB.out⟩
  · clear kl kg
    by_cases w0 : wh < 0
    · have HN := Lib.hid (show ¬ Ok1 n l i ⟨2, wh, sr⟩ from fun h => by have := h.2.1; (try simp only at this); omega)
      go_enter Try.func31, Try.ntmps31
      go_wp2_with fail
      all_goals first | (exfalso; omega) | skip
      go_ret
      exact ⟨⟨_, rfl, by simp [HN.out]⟩, HB.out⟩
    by_cases w1 : n ≤ wh
    · have w2 : 0 ≤ wh := by omega
      have HN := Lib.hid (show ¬ Ok1 n l i ⟨2, wh, sr⟩ from fun h => by have := h.2.2.1; (try simp only at this); omega)
      go_enter Try.func31, Try.ntmps31
      go_wp2_with fail
      all_goals first | (exfalso; omega) | skip
      go_ret
      exact ⟨⟨_, rfl, by simp [HN.out]⟩, HB.out⟩
    have w2 : 0 ≤ wh := by omega
    have w3 : wh < n := by omega
    have w4 : decide (wh < 0) = false := decide_eq_false w0
    have w5 : decide (n ≤ wh) = false := decide_eq_false w1
    have HN := Lib.hid (show Ok1 n l i ⟨2, wh, sr⟩ from ⟨.inr (.inl rfl), w2, w3, fun h => by simp at h⟩)
    go_enter Try.func31, Try.ntmps31
    go_wp2_with fail
    all_goals first | (exfalso; omega) | skip
    go_ret
    exact ⟨⟨0, rfl, by simp [HN.out]⟩, HB.out⟩
  · clear kl kg
    by_cases w0 : wh < 0
    · have HN := Lib.hid (show ¬ Ok1 n l i ⟨3, wh, sr⟩ from fun h => by have := h.2.1; (try simp only at this); omega)
      go_enter Try.func31, Try.ntmps31
      go_wp2_with fail
      all_goals first | (exfalso; omega) | skip
      go_ret
      exact ⟨⟨_, rfl, by simp [HN.out]⟩, HB.out⟩
    by_cases w1 : n ≤ wh
    · have w2 : 0 ≤ wh := by omega
      have HN := Lib.hid (show ¬ Ok1 n l i ⟨3, wh, sr⟩ from fun h => by have := h.2.2.1; (try simp only at this); omega)
      go_enter Try.func31, Try.ntmps31
      go_wp2_with fail
      all_goals first | (exfalso; omega) | skip
      go_ret
      exact ⟨⟨_, rfl, by simp [HN.out]⟩, HB.out⟩
    have w2 : 0 ≤ wh := by omega
    have w3 : wh < n := by omega
    have w4 : decide (wh < 0) = false := decide_eq_false w0
    have w5 : decide (n ≤ wh) = false := decide_eq_false w1
    by_cases s0 : sr < 0
    · have s9 : decide (sr < 0) = true := decide_eq_true s0
      have HN := Lib.hid (show ¬ Ok1 n l i ⟨3, wh, sr⟩ from fun h => by obtain ⟨j, s, q1, _⟩ := h.2.2.2 rfl; (try simp only at q1); omega)
      go_enter Try.func31, Try.ntmps31
      go_wp2_with fail
      all_goals first | (exfalso; omega) | skip
      go_ret
      exact ⟨⟨_, rfl, by simp [HN.out]⟩, HB.out⟩
    obtain ⟨j, rfl⟩ := Int.eq_ofNat_of_zero_le (show 0 ≤ sr by omega)
    have j0 : (0 : Int) ≤ (j : Int) := by omega
    have j9 : decide ((j : Int) < 0) = false := decide_eq_false (by omega)
    clear s0
    by_cases s1 : i ≤ j
    · have j1 : (i : Int) ≤ (j : Int) := by omega
      have j2 : decide (i ≤ j) = true := decide_eq_true s1
      have HN := Lib.hid (show ¬ Ok1 n l i ⟨3, wh, (j : Int)⟩ from fun h => by obtain ⟨j', s, q1, q2, _⟩ := h.2.2.2 rfl; (try simp only at q1); omega)
      go_enter Try.func31, Try.ntmps31
      go_wp2_with fail
      all_goals first | (exfalso; omega) | skip
      go_ret
      exact ⟨⟨_, rfl, by simp [HN.out]⟩, HB.out⟩
    have j1 : (j : Int) < (i : Int) := by omega
    have j2 : decide (i ≤ j) = false := decide_eq_false s1
    have j3 : (j : Int) < (l.length : Int) := by omega
    have j4 : j < i := by omega
    obtain ⟨s, hsj⟩ := get_of_lt (show j < l.length by omega)
    obtain ⟨_, _, hge, _, hcs⟩ := HSW.out.el hsj
    cases hge
    have u0 := hcs 0 _ rfl
    simp only [Nat.add_zero] at u0
    by_cases s2 : s.kind = 2
    rotate_left
    · have s3 : (s.kind != 2) = true := by simpa using s2
      have s4 : (s.kind == 2) = false := by simpa using s2
      have HN := Lib.hid (show ¬ Ok1 n l i ⟨3, wh, (j : Int)⟩ from fun h => by obtain ⟨j', s', q1, q2, q3, q4⟩ := h.2.2.2 rfl; (try simp only at q1); obtain rfl : j = j' := (by omega); rw [hsj] at q3; cases q3; exact s2 q4)
      go_enter Try.func31, Try.ntmps31
      go_wp2_with fail
      all_goals first | (exfalso; omega) | skip
      go_ret
      exact ⟨⟨_, rfl, by simp [HN.out]⟩, HB.out⟩
    have HN := Lib.hid (show Ok1 n l i ⟨3, wh, (j : Int)⟩ from ⟨.inr (.inr rfl), w2, w3, fun _ => ⟨j, s, rfl, by omega, hsj, s2⟩⟩)
    go_enter Try.func31, Try.ntmps31
    go_wp2_with fail
    all_goals first | (exfalso; omega) | skip
    go_ret
    exact ⟨⟨0, rfl, by simp [HN.out]⟩, HB.out⟩

end Go.Proofs.Ytffnjojdjbdfcaa
