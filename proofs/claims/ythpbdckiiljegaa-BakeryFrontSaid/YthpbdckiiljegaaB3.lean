/- The walk of BakeryFront. -/
import Derived.Test.YthpbdckiiljegaaB2
namespace Go.Proofs.Ythpbdckiiljegaa
open Go.RowKit
set_option linter.unusedVariables false

set_option maxHeartbeats 4000000 in
set_option maxRecDepth 100000 in
theorem front_any (n : Int) (v : Value) (xs : List Int) (q : Int) (W : World) (h : SlI W v xs) (hcap : ∀ a n c, v = .slice a n c → n ≤ c) (hq0 : 0 ≤ q) (hq : q ≤ 255) :
    Calls Try.prog 6 #[.int .i64 n, v, .int .u8 q] W fun e w' => e = .returned (.bool true) ∧ Below W.heap.size W w' := by
  obtain ⟨a, cap, rfl, hm⟩ := h.form
  have hcp := hcap _ _ _ rfl
  clear hcap
  obtain ⟨p, rfl⟩ := Int.eq_ofNat_of_zero_le hq0
  have hat : p % (xs.length + 1) ≤ xs.length := by have := Nat.mod_lt p (show 0 < xs.length + 1 by omega); omega
  have e1 : (p : Int) % ((xs.length : Int) + 1) = ((p % (xs.length + 1) : Nat) : Int) := by rw [Int.natCast_emod]; rfl
  have h2 := h.take hat
  generalize p % (xs.length + 1) = at_ at *
  have i0 : (0 : Int) ≤ (at_ : Int) := by omega
  have i1 : (at_ : Int) ≤ (xs.length : Int) := by omega
  have i2 : (at_ : Int) ≤ (cap : Int) := by omega
  by_cases hb : n < 1 ∨ 4 < n ∨ 120 < xs.length
  · have HX := Lib.hid (play_bad n _ xs W h hb)
    have HY := Lib.hid (fun w1 (hb : Below W.heap.size W w1) => play_either n _ _ w1 (h2.below hb))
    clear h h2 hb
    go_enter Try.func6, Try.ntmps6
    go_wp2_with (first | (go_at_call 7; (with_reducible refine HX.out.mono ?_); rintro e w1 ⟨rfl, hb1⟩; have HB1 := Lib.hid (hb1.alloc hb1.size (.cells #[.slice none 0 0, .slice none 0 0, .slice none 0 0, .slice none 0 0, .slice none 0 0] 26)); clear hb1) | (go_at_call 7; (with_reducible refine (HY.out _ HB1.out).mono ?_); rintro e w3 ⟨a1, n1, c1, a2, n2, c2, a3, n3, c3, a4, n4, c4, a5, n5, c5, c, rfl, hb3⟩))
    go_ret
    have hb4 := HB1.out.trans (hb3.mono HB1.out.size)
    exact ⟨rfl, hb4.alloc hb4.size _⟩
  · obtain ⟨m, rfl⟩ := Int.eq_ofNat_of_zero_le (show 0 ≤ n by omega)
    have HX := Lib.hid (play_run m _ xs W h (by omega) (by omega) (by omega))
    have HY := Lib.hid (fun w1 (hb : Below W.heap.size W w1) => play_run m _ _ w1 (h2.below hb) (by omega) (by omega) (by rw [List.length_take]; omega))
    have I1 := BInv.run (xs.take at_) (BInv.start m)
    have I2 := BInv.run xs (BInv.start m)
    have hru := runI_append m (s0 m) (xs.take at_) (xs.drop at_)
    rw [List.take_append_drop] at hru
    obtain ⟨r, hr⟩ := runI_front m (xs.drop at_) (runI m (s0 m) (xs.take at_))
    rw [← hru] at hr
    have hl1 := I1.len
    have hl2 := I2.len
    have hg1 := Good.run (xs.take at_) (Good.start m)
    have hg2 := Good.run xs (Good.start m)
    have ha1 : ((runI m (s0 m) (xs.take at_)).1.map fun p => (p.at_ : Int)).length = m := by simpa using hl1
    have ha2 : ((runI m (s0 m) xs).1.map fun p => (p.at_ : Int)).length = m := by simpa using hl2
    have hcl : (xs.map (codeI m)).length = xs.length := by simp
    have hil2 := hg2.2.1
    generalize ((runI m (s0 m) xs).1.map fun p => (p.at_ : Int)) = ats at *
    generalize ((runI m (s0 m) (xs.take at_)).1.map fun p => (p.at_ : Int)) = atb at *
    generalize (runI m (s0 m) xs).2 = ins at *
    generalize hsb : runI m (s0 m) (xs.take at_) = sb at *
    generalize hinb : sb.2 = inb at *
    have htc : (xs.map (codeI m)).take at_ = (xs.take at_).map (codeI m) := List.map_take.symm
    have hatc : at_ ≤ (xs.map (codeI m)).length := by simp; omega
    generalize (xs.map (codeI m)) = cs at *
    generalize ((xs.take at_).map (codeI m)) = csb at *
    have HTC := Lib.hid htc
    clear htc
    have HR := Lib.hid hr
    clear hr
    have hcl' : ((cs.length : Int) == (xs.length : Int)) = true := by simp; omega
    have hv2' : ((ats.length : Int) == (m : Int)) = true := by simp; omega
    have HLN := Lib.hid (show atb.length = m ∧ ats.length = m ∧ inb.length + r.length ≤ 120 from ⟨ha1, ha2, by rw [HR.out, List.length_append] at hil2; omega⟩)
    clear h h2 I1 I2 hru hl1 hl2 hg1 hg2 ha1 ha2 hcl hil2 hsb hinb
    go_enter Try.func6, Try.ntmps6
    go_wp2_with (first | (go_at_call 7; (with_reducible refine HX.out.mono ?_); rintro e w1 ⟨vc, va, a3, n3, c3, a4, n4, c4, vi, rfl, k1, k2, k3, hb1⟩; obtain ⟨a1, c1, rfl, m1⟩ := k1.form; obtain ⟨a2, c2, rfl, m2⟩ := k2.form; obtain ⟨a5, c5, rfl, m5⟩ := k3.form; have j6 : (at_ : Int) ≤ (cs.length : Int) := (by omega); have j7 : (at_ : Int) ≤ (c1 : Int) := (by have := k1.cap.2; omega); have HK := Lib.hid (And.intro k1 k3); have HB1 := Lib.hid (hb1.alloc hb1.size (.cells #[.slice a1 cs.length c1, .slice a2 ats.length c2, .slice a3 n3 c3, .slice a4 n4 c4, .slice a5 ins.length c5] 26)); clear k1 k2 k3 hb1) | (go_at_call 7; (with_reducible refine (HY.out _ HB1.out).mono ?_); rintro e w3 ⟨ub, vb, b3, p3, d3, b4, p4, d4, yb, rfl, l1, l2, l3, hb3⟩; obtain ⟨b1, d1, rfl, m6⟩ := l1.form; obtain ⟨b2, d2, rfl, m7⟩ := l2.form; obtain ⟨b5, d5, rfl, m8⟩ := l3.form; have HL := Lib.hid (And.intro l1 l3); have hTl : w1.heap.size < w3.heap.size := (by have := hb3.size; simp at this; omega); have z0 : w3.cell? ⟨w1.heap.size, 0, none⟩ = some (.slice a1 cs.length c1) := (hb3.cell (p := ⟨w1.heap.size, 0, none⟩) (by simp)).trans (by rw [World.cell?_alloc_at _ _ _ _ rfl]; rfl); have z1 : w3.cell? ⟨w1.heap.size, 1, none⟩ = some (.slice a2 ats.length c2) := (hb3.cell (p := ⟨w1.heap.size, 1, none⟩) (by simp)).trans (by rw [World.cell?_alloc_at _ _ _ _ rfl]; rfl); have z4 : w3.cell? ⟨w1.heap.size, 4, none⟩ = some (.slice a5 ins.length c5) := (hb3.cell (p := ⟨w1.heap.size, 4, none⟩) (by simp)).trans (by rw [World.cell?_alloc_at _ _ _ _ rfl]; rfl); have HB3 := Lib.hid hb3; clear l1 l2 l3 hb3))
    have hbA := below_alloc w3 (.cells #[.slice b1 csb.length d1, .slice b2 atb.length d2, .slice b3 p3 d3, .slice b4 p4 d4, .slice b5 inb.length d5] 26)
    have hb0 : Below (w1.alloc (.cells #[.slice a1 cs.length c1, .slice a2 ats.length c2, .slice a3 n3 c3, .slice a4 n4 c4, .slice a5 ins.length c5] 26)).heap.size (w1.alloc (.cells #[.slice a1 cs.length c1, .slice a2 ats.length c2, .slice a3 n3 c3, .slice a4 n4 c4, .slice a5 ins.length c5] 26)) w3 := HB3.out
    have hb1 := below_alloc w1 (.cells #[.slice a1 cs.length c1, .slice a2 ats.length c2, .slice a3 n3 c3, .slice a4 n4 c4, .slice a5 ins.length c5] 26)
    have hb13 := (hb1.trans (hb0.mono (by simp))).trans (hbA.mono (by omega))
    have hbW := (HB1.out.trans (hb0.mono HB1.out.size)).trans (hbA.mono (HB1.out.trans (hb0.mono HB1.out.size)).size)
    obtain ⟨k1, k3⟩ := HK.out
    obtain ⟨l1, l3⟩ := HL.out
    refine wp_world (fun w2 => Below W.heap.size W w2 ∧ (SlI w2 (.slice a1 cs.length c1) cs ∧ SlI w2 (.slice b1 csb.length d1) csb ∧ SlI w2 (.slice a5 ins.length c5) (nI ins) ∧ SlI w2 (.slice b5 inb.length d5) (nI inb)) ∧ (w2.cell? ⟨w1.heap.size, 0, none⟩ = some (.slice a1 cs.length c1) ∧ w2.cell? ⟨w1.heap.size, 1, none⟩ = some (.slice a2 ats.length c2) ∧ w2.cell? ⟨w1.heap.size, 4, none⟩ = some (.slice a5 ins.length c5)) ∧ (w2.cell? ⟨w3.heap.size, 0, none⟩ = some (.slice b1 csb.length d1) ∧ w2.cell? ⟨w3.heap.size, 4, none⟩ = some (.slice b5 inb.length d5)))
      ⟨hbW, ⟨(k1.below hb13).one, (l1.below hbA).one, by have := (k3.below hb13).nats; simpa using this, by have := (l3.below hbA).nats; simpa using this⟩, ⟨cell_alloc_old hTl z0, cell_alloc_old hTl z1, cell_alloc_old hTl z4⟩, by rw [World.cell?_alloc_at _ _ _ _ rfl]; rfl, by rw [World.cell?_alloc_at _ _ _ _ rfl]; rfl⟩ ?_
    have hc5 := k3.cap.2
    have hd5 := l3.cap.2
    have hc1 := k1.cap.2
    clear k1 k3 l1 l3 hbW hb13 hb1 hb0 hbA z0 z1 z4 hTl HB3 HK HL HB1
    rintro w2 ⟨hbW, ⟨s1, s2, s3, s4⟩, ⟨t0, t1, t4⟩, u0, u4⟩
    generalize w1.heap.size = T at *
    generalize w3.heap.size = U at *
    have HW := Lib.hid hbW
    have HBG := Lib.hid (fun q => show Calls Try.prog 8 #[.slice b5 inb.length d5, .slice a5 ins.length c5] (w2.drewN q) (fun e w' => e = .returned (.bool true) ∧ ∃ m, w' = (w2.drewN q).drewN m) from by
      have := begins_any (w := w2.drewN q) (s4.below (below_drewN (Below.refl _ w2) q)) (s3.below (below_drewN (Below.refl _ w2) q)) (fun a n c e => by cases e; simpa using hc5)
      rw [begI_of (by rw [HR.out]; simp)] at this
      exact this)
    have HCD := Lib.hid (fun q => show Calls Try.prog 11 #[.slice b1 csb.length d1, .slice a1 at_ c1] (w2.drewN q) (fun e w' => e = .returned (.bool true) ∧ ∃ m, w' = (w2.drewN q).drewN m) from by
      have h1 := (s1.below (below_drewN (Below.refl _ w2) q)).take hatc
      rw [HTC.out] at h1
      have := codes_any (w := w2.drewN q) (s2.below (below_drewN (Below.refl _ w2) q)) h1
      rw [eqI_of rfl] at this
      exact this)
    clear hbW s1 s2 s3 s4
    go_wp2_with fail
    go_quiet ((first | (go_at_call 11; exact Calls.quiet_of (HCD.out _)) | (go_at_call 8; exact Calls.quiet_of (HBG.out _))))
    go_wp2_with fail
    go_ret
    exact ⟨rfl, HW.out.trans ((below_drewN (Below.refl _ w2) _).mono HW.out.size)⟩

end Go.Proofs.Ythpbdckiiljegaa
