/- The walk of PaxosFront. -/
import Derived.Test.YtbakeeempbadcaaA6
import Derived.Test.YtbakeeempbadcaaM2
import Derived.Test.YtbakeeempbadcaaS4
namespace Go.Proofs.Ytbakeeempbadcaa
open Go.RowKit
set_option linter.unusedVariables false

set_option maxHeartbeats 1000000 in
theorem ballots_eq {va vb : Value} {xs : List (Int × Int)} {w : World} (ha : SlS FB 2 w va xs) (hb : SlS FB 2 w vb xs) (hm : xs.length ≤ 1000) : Calls Try.prog 8 #[va, vb] w fun e w' => e = .returned (.bool true) ∧ ∃ m, w' = w.drewN m := by
  obtain ⟨a, c1, rfl, m1⟩ := ha.form
  obtain ⟨b, c2, rfl, m2⟩ := hb.form
  have HA := Lib.hid ha
  have HB := Lib.hid hb
  clear ha hb
  go_enter Try.func8, Try.ntmps8
  go_wp2_with fail
  go_loopw [5] (fun i wr => ∃ (j m : Nat), j ≤ xs.length ∧ i = .int .i64 j ∧ wr = w.drewN m) (fun i _ => xs.length - (intOf i).toNat)
  case atStart => exact ⟨0, 0, Nat.zero_le _, rfl, rfl⟩
  case round =>
    obtain ⟨j, m, hj, rfl, rfl⟩ := hrel
    by_cases hlt : j < xs.length
    · obtain ⟨x, hx⟩ := get_of_lt hlt
      obtain ⟨b1, o1, rfl, _, h1⟩ := HA.out.el hx
      obtain ⟨b2, o2, rfl, _, h2⟩ := HB.out.el hx
      have q0 : w.cell? ⟨b1, o1 + j * 2, none⟩ = some (.int .i64 x.1) := h1 0 _ rfl
      have q1 := h1 1 _ rfl
      have r0 : w.cell? ⟨b2, o2 + j * 2, none⟩ = some (.int .i64 x.1) := h2 0 _ rfl
      have r1 := h2 1 _ rfl
      have i0 : (0 : Int) ≤ (j : Int) := by omega
      have i1 : (j : Int) < (xs.length : Int) := by omega
      clear hx h1 h2
      go_wp2_with fail
      go_quiet (fail)
      go_wp2_with fail
      go_roundw
      case rel => exact ⟨j + 1, _, by omega, by go_num, rfl⟩
      case measure => simp [intOf]; omega
    · go_wp2_with fail
      go_ret
      exact ⟨rfl, m, rfl⟩

/-- Play, whatever comes in -/
theorem play_either (n : Int) (v : Value) (xs : List Tr) (W : World) (h : SlS FT 4 W v xs) (hwf : ∀ t ∈ xs, (Lit.int .i64 t.ballot).wf = true) :
    Calls Try.prog 7 #[.int .i64 n, v] W fun e w' => ∃ a1 n1 c1 a2 n2 c2 a3 n3 c3 a4 n4 c4 c, e = .returned (.tuple #[.agg #[.slice a1 n1 c1, .slice a2 n2 c2, .slice a3 n3 c3, .slice a4 n4 c4], .int .i64 c]) ∧ Below W.heap.size W w' := by
  by_cases hb : n < 1 ∨ 5 < n ∨ 120 < xs.length
  · exact (play_bad FT 4 n v xs W h hb).mono fun e w' ⟨he, hb⟩ => ⟨_, _, _, _, _, _, _, _, _, _, _, _, _, he, hb⟩
  · obtain ⟨m, rfl⟩ := Int.eq_ofNat_of_zero_le (show 0 ≤ n by omega)
    refine (play_run m v xs W h (by omega) (by omega) (by omega) hwf).mono fun e w' ⟨vc, vv, vf, vch, he, k1, k2, k3, k4, hb⟩ => ?_
    obtain ⟨a1, c1, rfl, _⟩ := k1.form
    obtain ⟨a2, c2, rfl, _⟩ := k2.form
    obtain ⟨a3, c3, rfl, _⟩ := k3.form
    obtain ⟨a4, c4, rfl, _⟩ := k4.form
    exact ⟨_, _, _, _, _, _, _, _, _, _, _, _, _, he, hb⟩

set_option maxHeartbeats 4000000 in
set_option maxRecDepth 100000 in
theorem front_any (n : Int) (v : Value) (xs : List Tr) (q : Int) (W : World) (h : SlS FT 4 W v xs) (hwf : ∀ t ∈ xs, (Lit.int .i64 t.ballot).wf = true) (hq0 : 0 ≤ q) (hq : q ≤ 255) :
    Calls Try.prog 5 #[.int .i64 n, v, .int .u8 q] W fun e w' => e = .returned (.bool true) ∧ Below W.heap.size W w' := by
  obtain ⟨a, cap, rfl, hm⟩ := h.form
  obtain ⟨p, rfl⟩ := Int.eq_ofNat_of_zero_le hq0
  have hat : p % (xs.length + 1) ≤ xs.length := by have := Nat.mod_lt p (show 0 < xs.length + 1 by omega); omega
  have e1 : (p : Int) % ((xs.length : Int) + 1) = ((p % (xs.length + 1) : Nat) : Int) := by rw [Int.natCast_emod]; rfl
  have h2 := h.take hat
  have hwf2 : ∀ t ∈ xs.take (p % (xs.length + 1)), (Lit.int .i64 t.ballot).wf = true := fun t ht => hwf t (List.mem_of_mem_take ht)
  have hcp := h.cap.2
  generalize p % (xs.length + 1) = at_ at *
  by_cases hb : n < 1 ∨ 5 < n ∨ 120 < xs.length
  · have HX := Lib.hid (play_bad FT 4 n _ xs W h hb)
    have HY := Lib.hid (fun w1 (hb : Below W.heap.size W w1) => play_either n _ _ w1 (h2.below hb) hwf2)
    have i0 : (0 : Int) ≤ (at_ : Int) := by omega
    have i1 : (at_ : Int) ≤ (xs.length : Int) := by omega
    have i2 : (at_ : Int) ≤ (cap : Int) := by omega
    clear h h2 hb hwf hwf2
    go_enter Try.func5, Try.ntmps5
    go_wp2_with (first | (go_at_call 7; (with_reducible refine HX.out.mono ?_); rintro e w1 ⟨rfl, hb1⟩; have HB1 := Lib.hid (hb1.alloc hb1.size (.cells #[.slice none 0 0, .slice none 0 0, .slice none 0 0, .slice none 0 0] 27)); clear hb1) | (go_at_call 7; (with_reducible refine (HY.out _ HB1.out).mono ?_); rintro e w3 ⟨a1, n1, c1, a2, n2, c2, a3, n3, c3, a4, n4, c4, c, rfl, hb3⟩))
    go_ret
    have hb4 := HB1.out.trans (hb3.mono HB1.out.size)
    exact ⟨rfl, hb4.alloc hb4.size _⟩
  · obtain ⟨m, rfl⟩ := Int.eq_ofNat_of_zero_le (show 0 ≤ n by omega)
    have HX := Lib.hid (play_run m _ xs W h (by omega) (by omega) (by omega) hwf)
    have HY := Lib.hid (fun w1 (hb : Below W.heap.size W w1) => play_run m _ _ w1 (h2.below hb) (by omega) (by omega) (by rw [List.length_take]; omega) hwf2)
    have i0 : (0 : Int) ≤ (at_ : Int) := by omega
    have i1 : (at_ : Int) ≤ (xs.length : Int) := by omega
    have i2 : (at_ : Int) ≤ (cap : Int) := by omega
    have I := Inv.run (xs.take at_) (Inv.start m)
    have hvl1 := I.vl
    have hM := Mono.run (n := m) (xs.drop at_) I
    have hru := runS_append (xs.take at_) (xs.drop at_) (s0 m)
    rw [List.take_append_drop] at hru
    have I2 := Inv.run xs (Inv.start m)
    have hvl2 := I2.vl
    have hcl := runS_len xs (s0 m)
    have hg1 := Good.run (xs.take at_) (Good.start m)
    have hlt1 : (xs.take at_).length ≤ 120 := by rw [List.length_take]; omega
    have hsb : (runS (s0 m) xs).1 = (runS (runS (s0 m) (xs.take at_)).1 (xs.drop at_)).1 := by rw [hru]
    rw [← hsb] at hM
    obtain ⟨hMf, hMc, hMv, _⟩ := hM
    have hf1 := hMf.length_le
    have hf2 := hMc.length_le
    have hb1000 := hg1.fl
    have hb1001 := hg1.ch
    have HMV := Lib.hid hMv
    have HF := Lib.hid (show (runS (s0 m) xs).1.fl.take (runS (s0 m) (xs.take at_)).1.fl.length = (runS (s0 m) (xs.take at_)).1.fl from (List.prefix_iff_eq_take.1 hMf).symm)
    have HC := Lib.hid (show (runS (s0 m) xs).1.ch.take (runS (s0 m) (xs.take at_)).1.ch.length = (runS (s0 m) (xs.take at_)).1.ch from (List.prefix_iff_eq_take.1 hMc).symm)
    clear h h2 hwf hwf2 I I2 hru hsb hMf hMc hMv hg1
    generalize (runS (s0 m) (xs.take at_)).2 = csb at *
    generalize (runS (s0 m) (xs.take at_)).1 = sb at *
    generalize (runS (s0 m) xs).2 = cs at *
    generalize (runS (s0 m) xs).1 = s at *
    have hcl' : ((cs.length : Int) != (xs.length : Int)) = false := by simp; omega
    have hv1' : ((sb.vs.length : Int) != (m : Int)) = false := by simp; omega
    have hv2' : ((s.vs.length : Int) != (m : Int)) = false := by simp; omega
    have j1 : (sb.fl.length : Int) ≤ (s.fl.length : Int) := by omega
    have j2 : (sb.ch.length : Int) ≤ (s.ch.length : Int) := by omega
    have HVL := Lib.hid (And.intro hvl1 hvl2)
    have HLB := Lib.hid (show sb.fl.length ≤ 1000 ∧ sb.ch.length ≤ 1000 from ⟨by omega, by omega⟩)
    clear hvl1 hvl2 hcl
    go_enter Try.func5, Try.ntmps5
    go_wp2_with (first | (go_at_call 7; (with_reducible refine HX.out.mono ?_); rintro e w1 ⟨vc, vv, vf, vch, rfl, k1, k2, k3, k4, hb1⟩; obtain ⟨a1, c1, rfl, m1⟩ := k1.form; obtain ⟨a2, c2, rfl, m2⟩ := k2.form; obtain ⟨a3, c3, rfl, m3⟩ := k3.form; obtain ⟨a4, c4, rfl, m4⟩ := k4.form; have q3 := k3.cap.2; have q4 := k4.cap.2; have HK := Lib.hid (And.intro k2 (And.intro k3 k4)); have HB1 := Lib.hid (hb1.alloc hb1.size (.cells #[.slice a1 cs.length c1, .slice a2 s.vs.length c2, .slice a3 s.fl.length c3, .slice a4 s.ch.length c4] 27)); clear hb1 k1 k2 k3 k4) | (go_at_call 7; (with_reducible refine (HY.out _ HB1.out).mono ?_); rintro e w3 ⟨vc, vv, vf, vch, rfl, k1, k2, k3, k4, hb3⟩; obtain ⟨b1, d1, rfl, n1⟩ := k1.form; obtain ⟨b2, d2, rfl, n2⟩ := k2.form; obtain ⟨b3, d3, rfl, n3⟩ := k3.form; obtain ⟨b4, d4, rfl, n4⟩ := k4.form; have HL := Lib.hid (And.intro k2 (And.intro k3 k4)); have HB3 := Lib.hid hb3; have z0 : w3.cell? ⟨w1.heap.size, 0, none⟩ = some (.slice a1 cs.length c1) := (hb3.cell (by simp)).trans (by rw [World.cell?_alloc_at _ _ _ _ rfl]; rfl); have z1 : w3.cell? ⟨w1.heap.size, 1, none⟩ = some (.slice a2 s.vs.length c2) := (hb3.cell (by simp)).trans (by rw [World.cell?_alloc_at _ _ _ _ rfl]; rfl); have z2 : w3.cell? ⟨w1.heap.size, 2, none⟩ = some (.slice a3 s.fl.length c3) := (hb3.cell (by simp)).trans (by rw [World.cell?_alloc_at _ _ _ _ rfl]; rfl); have z3 : w3.cell? ⟨w1.heap.size, 3, none⟩ = some (.slice a4 s.ch.length c4) := (hb3.cell (by simp)).trans (by rw [World.cell?_alloc_at _ _ _ _ rfl]; rfl); have hTl : w1.heap.size < w3.heap.size := Nat.lt_of_lt_of_le (by simp) hb3.size; clear k1 k2 k3 k4 hb3))
    have hbA := below_alloc w3 (.cells #[.slice b1 csb.length d1, .slice b2 sb.vs.length d2, .slice b3 sb.fl.length d3, .slice b4 sb.ch.length d4] 27)
    have hb0 : Below (w1.alloc (.cells #[.slice a1 cs.length c1, .slice a2 s.vs.length c2, .slice a3 s.fl.length c3, .slice a4 s.ch.length c4] 27)).heap.size (w1.alloc (.cells #[.slice a1 cs.length c1, .slice a2 s.vs.length c2, .slice a3 s.fl.length c3, .slice a4 s.ch.length c4] 27)) w3 := HB3.out
    have hb1 := below_alloc w1 (.cells #[.slice a1 cs.length c1, .slice a2 s.vs.length c2, .slice a3 s.fl.length c3, .slice a4 s.ch.length c4] 27)
    have hb13 := (hb1.trans (hb0.mono (by simp))).trans (hbA.mono (by omega))
    have hbW := (HB1.out.trans (hb0.mono HB1.out.size)).trans (hbA.mono (HB1.out.trans (hb0.mono HB1.out.size)).size)
    obtain ⟨k2, k3, k4⟩ := HK.out
    obtain ⟨l2, l3, l4⟩ := HL.out
    refine wp_world (fun w2 => Below W.heap.size W w2 ∧ (SlS FV 3 w2 (.slice a2 s.vs.length c2) s.vs ∧ SlS FB 2 w2 (.slice a3 s.fl.length c3) s.fl ∧ SlS FB 2 w2 (.slice a4 s.ch.length c4) s.ch) ∧ (SlS FV 3 w2 (.slice b2 sb.vs.length d2) sb.vs ∧ SlS FB 2 w2 (.slice b3 sb.fl.length d3) sb.fl ∧ SlS FB 2 w2 (.slice b4 sb.ch.length d4) sb.ch) ∧
        (w1.heap.size < w2.heap.size ∧ w2.cell? ⟨w1.heap.size, 1, none⟩ = some (.slice a2 s.vs.length c2) ∧ w2.cell? ⟨w1.heap.size, 2, none⟩ = some (.slice a3 s.fl.length c3) ∧ w2.cell? ⟨w1.heap.size, 3, none⟩ = some (.slice a4 s.ch.length c4)) ∧
        (w3.heap.size < w2.heap.size ∧ w2.cell? ⟨w3.heap.size, 1, none⟩ = some (.slice b2 sb.vs.length d2) ∧ w2.cell? ⟨w3.heap.size, 2, none⟩ = some (.slice b3 sb.fl.length d3) ∧ w2.cell? ⟨w3.heap.size, 3, none⟩ = some (.slice b4 sb.ch.length d4)))
      ⟨hbW, ⟨k2.below hb13, k3.below hb13, k4.below hb13⟩, ⟨l2.below hbA, l3.below hbA, l4.below hbA⟩, ⟨by simp; omega, cell_alloc_old hTl z1, cell_alloc_old hTl z2, cell_alloc_old hTl z3⟩, by simp, by rw [World.cell?_alloc_at _ _ _ _ rfl]; rfl, by rw [World.cell?_alloc_at _ _ _ _ rfl]; rfl, by rw [World.cell?_alloc_at _ _ _ _ rfl]; rfl⟩ ?_
    clear k2 k3 k4 l2 l3 l4 hbW hb13 hb1 hb0 hbA z0 z1 z2 z3 hTl HB3 HK HL HB1
    rintro w2 ⟨hbW, HKK, HLL, ⟨hTl, z1, z2, z3⟩, hUl, u1, u2, u3⟩
    generalize w1.heap.size = T at *
    generalize w3.heap.size = U at *
    have HW := Lib.hid hbW
    have HK := Lib.hid HKK
    have HL := Lib.hid HLL
    clear hbW HKK HLL
    go_loopw [12] (fun i wr => ∃ j : Nat, j ≤ m ∧ i = .int .i64 j ∧ Below w2.heap.size w2 wr) (fun i _ => m - (intOf i).toNat)
    case atStart => exact ⟨0, Nat.zero_le _, rfl, Below.refl _ _⟩
    case round =>
      obtain ⟨j, hj, rfl, hbw⟩ := hrel
      have y1 : wr.cell? ⟨T, 1, none⟩ = some (.slice a2 s.vs.length c2) := (hbw.cell (p := ⟨T, 1, none⟩) hTl).trans z1
      have y2 : wr.cell? ⟨T, 2, none⟩ = some (.slice a3 s.fl.length c3) := (hbw.cell (p := ⟨T, 2, none⟩) hTl).trans z2
      have y3 : wr.cell? ⟨T, 3, none⟩ = some (.slice a4 s.ch.length c4) := (hbw.cell (p := ⟨T, 3, none⟩) hTl).trans z3
      have x1 : wr.cell? ⟨U, 1, none⟩ = some (.slice b2 sb.vs.length d2) := (hbw.cell (p := ⟨U, 1, none⟩) hUl).trans u1
      have x2 : wr.cell? ⟨U, 2, none⟩ = some (.slice b3 sb.fl.length d3) := (hbw.cell (p := ⟨U, 2, none⟩) hUl).trans u2
      have x3 : wr.cell? ⟨U, 3, none⟩ = some (.slice b4 sb.ch.length d4) := (hbw.cell (p := ⟨U, 3, none⟩) hUl).trans u3
      clear u1 u2 u3 z1 z2 z3
      by_cases hlt : j < m
      · obtain ⟨v1, hv1⟩ := get_of_lt (show j < sb.vs.length by rw [HVL.out.1]; exact hlt)
        obtain ⟨v2, hv2, hle1, hle2⟩ := HMV.out j v1 hv1
        obtain ⟨e1, o1, rfl, _, hc1⟩ := (HL.out.1.below hbw).el hv1
        obtain ⟨e2, o2, rfl, _, hc2⟩ := (HK.out.1.below hbw).el hv2
        have p0 : wr.cell? ⟨e1, o1 + j * 3, none⟩ = some (.int .i64 v1.pm) := hc1 0 _ rfl
        have p1 := hc1 1 _ rfl
        have r0 : wr.cell? ⟨e2, o2 + j * 3, none⟩ = some (.int .i64 v2.pm) := hc2 0 _ rfl
        have r1 := hc2 1 _ rfl
        have i3 : (0 : Int) ≤ (j : Int) := by omega
        have i4 : (j : Int) < (sb.vs.length : Int) := by rw [HVL.out.1]; omega
        have i5 : (j : Int) < (s.vs.length : Int) := by rw [HVL.out.2]; omega
        have d1' : decide (v2.pm < v1.pm) = false := decide_eq_false (by omega)
        have d2' : decide (v2.tn < v1.tn) = false := decide_eq_false (by omega)
        have HBW := Lib.hid hbw
        clear hc1 hc2 hv1 hv2 hbw
        go_wp2_with fail
        go_quiet (fail)
        go_wp2_with fail
        go_roundw
        case rel => exact ⟨j + 1, by omega, by go_num, below_drewN HBW.out _⟩
        case measure => simp [intOf]; omega
      · have HBW := Lib.hid hbw
        have i3 : (0 : Int) ≤ (sb.fl.length : Int) := by omega
        have i4 : (0 : Int) ≤ (sb.ch.length : Int) := by omega
        have i5 : (sb.fl.length : Int) ≤ (c3 : Int) := by omega
        have i6 : (sb.ch.length : Int) ≤ (c4 : Int) := by omega
        have B1 := fun n => ballots_eq ((HL.out.2.1.below hbw).below (below_drewN (Below.refl _ wr) n)) (show SlS FB 2 (wr.drewN n) (.slice a3 sb.fl.length c3) sb.fl from by
          have := (((HK.out.2.1.below hbw).below (below_drewN (Below.refl _ wr) n))).take (k := sb.fl.length) (by omega)
          rw [HF.out] at this; exact this) HLB.out.1
        have B2 := fun n => ballots_eq ((HL.out.2.2.below hbw).below (below_drewN (Below.refl _ wr) n)) (show SlS FB 2 (wr.drewN n) (.slice a4 sb.ch.length c4) sb.ch from by
          have := (((HK.out.2.2.below hbw).below (below_drewN (Below.refl _ wr) n))).take (k := sb.ch.length) (by omega)
          rw [HC.out] at this; exact this) HLB.out.2
        have HB1 := Lib.hid B1
        have HB2 := Lib.hid B2
        clear B1 B2 hbw
        go_wp2_with fail
        go_quiet ((go_at_call 8; first | (with_reducible exact Calls.quiet_of (HB1.out _)) | (with_reducible exact Calls.quiet_of (HB2.out _))))
        go_wp2_with fail
        go_ret
        exact ⟨rfl, HW.out.trans ((below_drewN HBW.out _).mono HW.out.size)⟩

end Go.Proofs.Ytbakeeempbadcaa
