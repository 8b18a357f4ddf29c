/- Check, and the laws' own word of it. -/
import Derived.Test.YtffnjojdjbdfcaaA1
namespace Go.Proofs.Ytffnjojdjbdfcaa
open Go.RowKit Go.Shelf
set_option linter.unusedVariables false

set_option maxHeartbeats 4000000 in
theorem check_any {W : World} {v : Value} {l : List Ev} (n : Int) (h : SlS FE 3 W v l) :
    Calls Try.prog 27 #[.int .i64 n, v] W fun r w' => (∃ c : Int, r = .returned (.int .i64 c) ∧ (c = 0 ↔ OkE n l)) ∧ Below W.heap.size W w' := by
  have HWR := Lib.hid (fun (i : Nat) e he hl (w1 : World) (hb : Below W.heap.size W w1) => wrong_any (W := w1) n i (e := e) (h.below hb) he hl)
  obtain ⟨a, cap, rfl, hm⟩ := h.form
  have HS := Lib.hid h
  clear h
  by_cases n1 : n < 1
  · have HN := Lib.hid (show ¬ OkE n l from fun ok => by have := ok.low; omega)
    go_enter Try.func27, Try.ntmps27
    go_wp2_with fail
    all_goals first | (exfalso; omega) | skip
    go_ret
    exact ⟨⟨1, rfl, by simp [HN.out]⟩, Below.refl _ _⟩
  by_cases n2 : 6 < n
  · have HN := Lib.hid (show ¬ OkE n l from fun ok => by have := ok.high; omega)
    have n3 : 1 ≤ n := by omega
    clear n1
    go_enter Try.func27, Try.ntmps27
    go_wp2_with fail
    all_goals first | (exfalso; omega) | skip
    go_ret
    exact ⟨⟨1, rfl, by simp [HN.out]⟩, Below.refl _ _⟩
  have n3 : 1 ≤ n := by omega
  have n4 : n ≤ 6 := by omega
  have d1 : decide (n < 1) = false := decide_eq_false n1
  have d2 : decide (6 < n) = false := decide_eq_false n2
  clear n1 n2
  by_cases n5 : 60 < l.length
  · have HN := Lib.hid (show ¬ OkE n l from fun ok => by have := ok.few; omega)
    have n6 : (60 : Int) < (l.length : Int) := by omega
    go_enter Try.func27, Try.ntmps27
    go_wp2_with fail
    all_goals first | (exfalso; omega) | skip
    go_ret
    exact ⟨⟨1, rfl, by simp [HN.out]⟩, Below.refl _ _⟩
  have n6 : (l.length : Int) ≤ 60 := by omega
  have n7 : l.length ≤ 60 := by omega
  have d3 : decide ((60 : Int) < (l.length : Int)) = false := decide_eq_false (by omega)
  have HC := Lib.hid (And.intro n3 (And.intro n4 n7))
  clear n5
  go_enter Try.func27, Try.ntmps27
  go_wp2_with fail
  all_goals first | (exfalso; omega) | skip
  go_loopw [20] (fun i wr => ∃ j : Nat, j ≤ l.length ∧ i = .int .i64 j ∧ OkN n l j ∧ Below W.heap.size W wr) (fun i _ => l.length - (intOf i).toNat)
  case atStart => exact ⟨0, Nat.zero_le _, rfl, fun i x hi => by omega, Below.refl _ _⟩
  case round =>
    obtain ⟨j, hj, rfl, hno, hb⟩ := hrel
    have i0 : (0 : Int) ≤ (j : Int) := by omega
    have HB := Lib.hid hb
    have HNO := Lib.hid hno
    by_cases hlt : j < l.length
    · obtain ⟨e, he⟩ := get_of_lt hlt
      have i1 : (j : Int) < (l.length : Int) := by omega
      have HW := Lib.hid (HWR.out j e he n7 wr hb)
      have HX := Lib.hid he
      clear hno hb he
      go_wp2_with fail
      refine HW.out.mono ?_
      rintro r w1 ⟨⟨c, rfl, hc⟩, hb1⟩
      have HB2 := Lib.hid (HB.out.trans (hb1.mono HB.out.size))
      have HCC := Lib.hid hc
      clear hb1 hc
      by_cases hc : c = 0
      · subst hc
        have HN := Lib.hid (HNO.out.next HX.out (HCC.out.1 rfl))
        go_wp2_with fail
        go_roundw
        case rel => exact ⟨j + 1, by omega, by go_num, HN.out, HB2.out⟩
        case measure => simp [intOf]; omega
      · have hc1 : (c != 0) = true := by simpa using hc
        have hc2 : (c == 0) = false := by simpa using hc
        have HN := Lib.hid (show ¬ OkE n l from fun ok => hc (HCC.out.2 (ok.all j e HX.out)))
        have HC0 := Lib.hid hc
        clear hc
        go_wp2_with fail
        go_ret
        exact ⟨⟨c, rfl, by simp [HN.out, HC0.out]⟩, HB2.out⟩
    · obtain rfl : j = l.length := by omega
      have HOK := Lib.hid (show OkE n l from ⟨HC.out.1, HC.out.2.1, HC.out.2.2, fun i e he => hno i e (List.getElem?_eq_some_iff.1 he).1 he⟩)
      clear hno hb
      go_wp2_with fail
      go_ret
      exact ⟨⟨0, rfl, by simp [HOK.out]⟩, HB.out⟩

set_option maxHeartbeats 8000000 in
theorem evcheck_any {W : World} {v : Value} {l : List Ev} (n : Int) (h : SlS FE 3 W v l) :
    Calls Try.prog 19 #[.int .i64 n, v] W fun r w' => (∃ c : Int, r = .returned (.int .i64 c) ∧ (c = 0 ↔ OkE n l)) ∧ Below W.heap.size W w' := by
  obtain ⟨a, cap, rfl, hm⟩ := h.form
  have HS := Lib.hid h
  clear h
  by_cases n1 : n < 1
  · have HN := Lib.hid (show ¬ OkE n l from fun ok => by have := ok.low; omega)
    go_enter Try.func19, Try.ntmps19
    go_wp2_with fail
    all_goals first | (exfalso; omega) | skip
    go_ret
    exact ⟨⟨1, rfl, by simp [HN.out]⟩, Below.refl _ _⟩
  by_cases n2 : 6 < n
  · have HN := Lib.hid (show ¬ OkE n l from fun ok => by have := ok.high; omega)
    have n3 : 1 ≤ n := by omega
    clear n1
    go_enter Try.func19, Try.ntmps19
    go_wp2_with fail
    all_goals first | (exfalso; omega) | skip
    go_ret
    exact ⟨⟨1, rfl, by simp [HN.out]⟩, Below.refl _ _⟩
  have n3 : 1 ≤ n := by omega
  have n4 : n ≤ 6 := by omega
  have d1 : decide (n < 1) = false := decide_eq_false n1
  have d2 : decide (6 < n) = false := decide_eq_false n2
  clear n1 n2
  by_cases n5 : 60 < l.length
  · have HN := Lib.hid (show ¬ OkE n l from fun ok => by have := ok.few; omega)
    have n6 : (60 : Int) < (l.length : Int) := by omega
    go_enter Try.func19, Try.ntmps19
    go_wp2_with fail
    all_goals first | (exfalso; omega) | skip
    go_ret
    exact ⟨⟨1, rfl, by simp [HN.out]⟩, Below.refl _ _⟩
  have n6 : (l.length : Int) ≤ 60 := by omega
  have n7 : l.length ≤ 60 := by omega
  have d3 : decide ((60 : Int) < (l.length : Int)) = false := decide_eq_false (by omega)
  have HC := Lib.hid (And.intro n3 (And.intro n4 n7))
  clear n5
  go_enter Try.func19, Try.ntmps19
  go_wp2_with fail
  all_goals first | (exfalso; omega) | skip
  go_loopw [20] (fun i wr => ∃ j : Nat, j ≤ l.length ∧ i = .int .i64 j ∧ OkN n l j ∧ Below W.heap.size W wr) (fun i _ => l.length - (intOf i).toNat)
  case atStart => exact ⟨0, Nat.zero_le _, rfl, fun i x hi => by omega, Below.refl _ _⟩
  case round =>
    obtain ⟨j, hj, rfl, hno, hb⟩ := hrel
    have i0 : (0 : Int) ≤ (j : Int) := by omega
    have HB := Lib.hid hb
    have HNO := Lib.hid hno
    by_cases hlt : j < l.length
    · obtain ⟨e, he⟩ := get_of_lt hlt
      have i1 : (j : Int) < (l.length : Int) := by omega
      obtain ⟨b0, off, rfl, hlb, hc⟩ := (HS.out.below hb).el he
      have c0 : wr.cell? ⟨b0, off + j * 3, none⟩ = some (.int .i64 e.kind) := hc 0 _ rfl
      have c1 : wr.cell? ⟨b0, off + j * 3 + 1, none⟩ = some (.int .i64 e.who) := hc 1 _ rfl
      have c2 : wr.cell? ⟨b0, off + j * 3 + 2, none⟩ = some (.int .i64 e.src) := hc 2 _ rfl
      have HX := Lib.hid he
      have HB2 := Lib.hid (hb.trans ((below_alloc wr (.cells #[.int .i64 e.kind, .int .i64 e.who, .int .i64 e.src] 36)).mono hb.size))
      have HSW := Lib.hid (HS.out.below HB2.out)
      clear hno hb he hc
      obtain ⟨kd, wh, sr⟩ := e
      simp only at c0 c1 c2 HSW HB2
      by_cases kl : kd < 1
      · have kx1 : (kd != 1) = true := by simp; omega
        have kx2 : (kd != 2) = true := by simp; omega
        have kx3 : (kd != 3) = true := by simp; omega
        have HN := Lib.hid (show ¬ OkE n l from fun ok => by
          have h := ok.all j ⟨kd, wh, sr⟩ HX.out
          exact absurd h (show ¬ Ok1 n l j ⟨kd, wh, sr⟩ from fun h => by have := h.1; (try simp only at this); omega))
        go_wp2_with fail
        all_goals first | (exfalso; omega) | skip
        go_ret
        exact ⟨⟨_, rfl, by simp [HN.out]⟩, HB2.out⟩
      by_cases kg : 3 < kd
      · have kx1 : (kd != 1) = true := by simp; omega
        have kx2 : (kd != 2) = true := by simp; omega
        have kx3 : (kd != 3) = true := by simp; omega
        have kx4 : 1 ≤ kd := by omega
        have HN := Lib.hid (show ¬ OkE n l from fun ok => by
          have h := ok.all j ⟨kd, wh, sr⟩ HX.out
          exact absurd h (show ¬ Ok1 n l j ⟨kd, wh, sr⟩ from fun h => by have := h.1; (try simp only at this); omega))
        go_wp2_with fail
        all_goals first | (exfalso; omega) | skip
        go_ret
        exact ⟨⟨_, rfl, by simp [HN.out]⟩, HB2.out⟩
      rcases (show kd = 1 ∨ kd = 2 ∨ kd = 3 by omega) with rfl | rfl | rfl
      · clear kl kg
        by_cases w0 : wh < 0
        · have HN := Lib.hid (show ¬ OkE n l from fun ok => by
            have h := ok.all j ⟨1, wh, sr⟩ HX.out
            exact absurd h (show ¬ Ok1 n l j ⟨1, wh, sr⟩ from fun h => by have := h.2.1; (try simp only at this); omega))
          go_wp2_with fail
          all_goals first | (exfalso; omega) | skip
          go_ret
          exact ⟨⟨_, rfl, by simp [HN.out]⟩, HB2.out⟩
        by_cases w1 : n ≤ wh
        · have w2 : 0 ≤ wh := by omega
          have HN := Lib.hid (show ¬ OkE n l from fun ok => by
            have h := ok.all j ⟨1, wh, sr⟩ HX.out
            exact absurd h (show ¬ Ok1 n l j ⟨1, wh, sr⟩ from fun h => by have := h.2.2.1; (try simp only at this); omega))
          go_wp2_with fail
          all_goals first | (exfalso; omega) | skip
          go_ret
          exact ⟨⟨_, rfl, by simp [HN.out]⟩, HB2.out⟩
        have w2 : 0 ≤ wh := by omega
        have w3 : wh < n := by omega
        have w4 : decide (wh < 0) = false := decide_eq_false w0
        have w5 : decide (n ≤ wh) = false := decide_eq_false w1
        have HN := Lib.hid (HNO.out.next HX.out (show Ok1 n l j ⟨1, wh, sr⟩ from ⟨.inl rfl, w2, w3, fun h => by simp at h⟩))
        go_wp2_with fail
        all_goals first | (exfalso; omega) | skip
        go_roundw
        case rel => exact ⟨j + 1, by omega, by go_num, HN.out, HB2.out⟩
        case measure => simp [intOf]; omega
      · clear kl kg
        by_cases w0 : wh < 0
        · have HN := Lib.hid (show ¬ OkE n l from fun ok => by
            have h := ok.all j ⟨2, wh, sr⟩ HX.out
            exact absurd h (show ¬ Ok1 n l j ⟨2, wh, sr⟩ from fun h => by have := h.2.1; (try simp only at this); omega))
          go_wp2_with fail
          all_goals first | (exfalso; omega) | skip
          go_ret
          exact ⟨⟨_, rfl, by simp [HN.out]⟩, HB2.out⟩
        by_cases w1 : n ≤ wh
        · have w2 : 0 ≤ wh := by omega
          have HN := Lib.hid (show ¬ OkE n l from fun ok => by
            have h := ok.all j ⟨2, wh, sr⟩ HX.out
            exact absurd h (show ¬ Ok1 n l j ⟨2, wh, sr⟩ from fun h => by have := h.2.2.1; (try simp only at this); omega))
          go_wp2_with fail
          all_goals first | (exfalso; omega) | skip
          go_ret
          exact ⟨⟨_, rfl, by simp [HN.out]⟩, HB2.out⟩
        have w2 : 0 ≤ wh := by omega
        have w3 : wh < n := by omega
        have w4 : decide (wh < 0) = false := decide_eq_false w0
        have w5 : decide (n ≤ wh) = false := decide_eq_false w1
        have HN := Lib.hid (HNO.out.next HX.out (show Ok1 n l j ⟨2, wh, sr⟩ from ⟨.inr (.inl rfl), w2, w3, fun h => by simp at h⟩))
        go_wp2_with fail
        all_goals first | (exfalso; omega) | skip
        go_roundw
        case rel => exact ⟨j + 1, by omega, by go_num, HN.out, HB2.out⟩
        case measure => simp [intOf]; omega
      · clear kl kg
        by_cases w0 : wh < 0
        · have HN := Lib.hid (show ¬ OkE n l from fun ok => by
            have h := ok.all j ⟨3, wh, sr⟩ HX.out
            exact absurd h (show ¬ Ok1 n l j ⟨3, wh, sr⟩ from fun h => by have := h.2.1; (try simp only at this); omega))
          go_wp2_with fail
          all_goals first | (exfalso; omega) | skip
          go_ret
          exact ⟨⟨_, rfl, by simp [HN.out]⟩, HB2.out⟩
        by_cases w1 : n ≤ wh
        · have w2 : 0 ≤ wh := by omega
          have HN := Lib.hid (show ¬ OkE n l from fun ok => by
            have h := ok.all j ⟨3, wh, sr⟩ HX.out
            exact absurd h (show ¬ Ok1 n l j ⟨3, wh, sr⟩ from fun h => by have := h.2.2.1; (try simp only at this); omega))
          go_wp2_with fail
          all_goals first | (exfalso; omega) | skip
          go_ret
          exact ⟨⟨_, rfl, by simp [HN.out]⟩, HB2.out⟩
        have w2 : 0 ≤ wh := by omega
        have w3 : wh < n := by omega
        have w4 : decide (wh < 0) = false := decide_eq_false w0
        have w5 : decide (n ≤ wh) = false := decide_eq_false w1
        by_cases s0 : sr < 0
        · have s9 : decide (sr < 0) = true := decide_eq_true s0
          have HN := Lib.hid (show ¬ OkE n l from fun ok => by
            have h := ok.all j ⟨3, wh, sr⟩ HX.out
            exact absurd h (show ¬ Ok1 n l j ⟨3, wh, sr⟩ from fun h => by obtain ⟨q, s, q1, _⟩ := h.2.2.2 rfl; (try simp only at q1); omega))
          go_wp2_with fail
          all_goals first | (exfalso; omega) | skip
          go_ret
          exact ⟨⟨_, rfl, by simp [HN.out]⟩, HB2.out⟩
        obtain ⟨q, rfl⟩ := Int.eq_ofNat_of_zero_le (show 0 ≤ sr by omega)
        have j0 : (0 : Int) ≤ (q : Int) := by omega
        have j9 : decide ((q : Int) < 0) = false := decide_eq_false (by omega)
        clear s0
        by_cases s1 : j ≤ q
        · have j1 : (j : Int) ≤ (q : Int) := by omega
          have j2 : decide (j ≤ q) = true := decide_eq_true s1
          have HN := Lib.hid (show ¬ OkE n l from fun ok => by
            have h := ok.all j ⟨3, wh, (q : Int)⟩ HX.out
            exact absurd h (show ¬ Ok1 n l j ⟨3, wh, (q : Int)⟩ from fun h => by obtain ⟨q', s, q1, q2, _⟩ := h.2.2.2 rfl; (try simp only at q1); omega))
          go_wp2_with fail
          all_goals first | (exfalso; omega) | skip
          go_ret
          exact ⟨⟨_, rfl, by simp [HN.out]⟩, HB2.out⟩
        have j1 : (q : Int) < (j : Int) := by omega
        have j2 : decide (j ≤ q) = false := decide_eq_false s1
        have j3 : (q : Int) < (l.length : Int) := by omega
        have j4 : q < j := by omega
        obtain ⟨s, hsj⟩ := get_of_lt (show q < l.length by omega)
        obtain ⟨_, _, hge, _, hcs⟩ := HSW.out.el hsj
        cases hge
        have u0 := hcs 0 _ rfl
        simp only [Nat.add_zero] at u0
        by_cases s2 : s.kind = 2
        rotate_left
        · have s3 : (s.kind != 2) = true := by simpa using s2
          have s4 : (s.kind == 2) = false := by simpa using s2
          have HN := Lib.hid (show ¬ OkE n l from fun ok => by
            have h := ok.all j ⟨3, wh, (q : Int)⟩ HX.out
            exact absurd h (show ¬ Ok1 n l j ⟨3, wh, (q : Int)⟩ from fun h => by obtain ⟨q', s', q1, q2, q3, q4⟩ := h.2.2.2 rfl; (try simp only at q1); obtain rfl : q = q' := (by omega); rw [hsj] at q3; cases q3; exact s2 q4))
          go_wp2_with fail
          all_goals first | (exfalso; omega) | skip
          go_ret
          exact ⟨⟨_, rfl, by simp [HN.out]⟩, HB2.out⟩
        have HN := Lib.hid (HNO.out.next HX.out (show Ok1 n l j ⟨3, wh, (q : Int)⟩ from ⟨.inr (.inr rfl), w2, w3, fun _ => ⟨q, s, rfl, by omega, hsj, s2⟩⟩))
        go_wp2_with fail
        all_goals first | (exfalso; omega) | skip
        go_roundw
        case rel => exact ⟨j + 1, by omega, by go_num, HN.out, HB2.out⟩
        case measure => simp [intOf]; omega
    · obtain rfl : j = l.length := by omega
      have HOK := Lib.hid (show OkE n l from ⟨HC.out.1, HC.out.2.1, HC.out.2.2, fun i e he => hno i e (List.getElem?_eq_some_iff.1 he).1 he⟩)
      clear hno hb
      go_wp2_with fail
      go_ret
      exact ⟨⟨0, rfl, by simp [HOK.out]⟩, HB.out⟩

theorem events_any {W : World} {v : Value} {l : List Ev} (n : Int) (h : SlS FE 3 W v l) :
    Calls Try.prog 8 #[.int .i64 n, v] W fun e w' => (∃ b, e = .returned (.bool b) ∧ (b = true ↔ OkE n l)) ∧ Below W.heap.size W w' := by
  have HC := Lib.hid (evcheck_any n h)
  clear h
  go_enter Try.func8, Try.ntmps8
  go_wp2_with fail
  refine HC.out.mono ?_
  rintro e w' ⟨⟨c, rfl, hc⟩, hb⟩
  have HD := Lib.hid (And.intro hc hb)
  clear hc hb
  go_wp2_with fail
  go_ret
  exact ⟨⟨c == 0, rfl, by simpa using HD.out.1⟩, HD.out.2⟩
end Go.Proofs.Ytffnjojdjbdfcaa
