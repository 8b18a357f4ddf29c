/- The walk of PaxosOne. -/
import Derived.Test.YtbakeeempbadcaaA6
import Derived.Test.YtbakeeempbadcaaM2
import Derived.Test.YtbakeeempbadcaaS4
namespace Go.Proofs.Ytbakeeempbadcaa
open Go.RowKit
set_option linter.unusedVariables false

def begB (xs : List Tr) (cs : List Int) (x : Int) (k : Nat) : Bool := (List.range k).any fun i => match xs[i]?, cs[i]? with | some t, some c => t.kind == 1 && c == 0 && t.val == x | _, _ => false
theorem begB_zero (xs : List Tr) (cs : List Int) (x : Int) : begB xs cs x 0 = false := rfl
theorem begB_succ {xs : List Tr} {cs : List Int} {k : Nat} {t : Tr} {c : Int} (x : Int) (ht : xs[k]? = some t) (hc : cs[k]? = some c) : begB xs cs x (k + 1) = (begB xs cs x k || (t.kind == 1 && c == 0 && t.val == x)) := by
  unfold begB; rw [List.range_succ, List.any_append]; simp [ht, hc]
theorem begB_of {xs : List Tr} {cs : List Int} {x : Int} (h : Begun xs cs x) : begB xs cs x xs.length = true := by
  obtain ⟨i, t, h1, h2, h3, h4⟩ := h
  unfold begB
  refine List.any_eq_true.2 ⟨i, List.mem_range.2 (List.getElem?_eq_some_iff.1 h1).1, ?_⟩
  simp [h1, h3, h2, h4]
def eqB (l : List (Int × Int)) (a : Int × Int) : Bool := l.any fun b => a.1 == b.1 && a.2 == b.2
theorem eqB_snoc (l : List (Int × Int)) (a b : Int × Int) : eqB (l ++ [b]) a = (eqB l a || (a.1 == b.1 && a.2 == b.2)) := by unfold eqB; simp
theorem eqB_of {l : List (Int × Int)} {a : Int × Int} (h : a ∈ l) : eqB l a = true := List.any_eq_true.2 ⟨a, h, by simp⟩

/-- of what is chosen -/
theorem chosen_one {n : Nat} {s : St} (I : Inv n s) {a : Int × Int} (ha : a ∈ s.ch) : a ∈ s.fl ∧ (∀ b ∈ s.fl, a.1 < b.1 → b.2 = a.2) ∧ ∀ b ∈ s.ch, a.2 = b.2 := by
  have key : ∀ a ∈ s.ch, ∀ b ∈ s.fl, a.1 < b.1 → b.2 = a.2 := fun a ha b hb hlt => by
    obtain ⟨h1, c, h2, h3⟩ := I.ch a ha
    obtain ⟨c', g1, g2, g3⟩ := I.fl a h1
    rw [h2] at g1; cases g1
    obtain ⟨bb, e1, e2, e3⟩ := I.fl b hb
    rw [← e3, ← g3]
    exact I.agree h2 g2 h3 _ _ _ (Nat.le_refl _) hlt e1 e2
  refine ⟨(I.ch a ha).1, key a ha, fun b hb => ?_⟩
  rcases (by omega : a.1 < b.1 ∨ b.1 < a.1 ∨ a.1 = b.1) with h | h | h
  · exact (key a ha b (I.ch b hb).1 h).symm
  · exact key b hb a (I.ch a ha).1 h
  · obtain ⟨c, g1, _, g3⟩ := I.fl a (I.ch a ha).1
    obtain ⟨d, e1, _, e3⟩ := I.fl b (I.ch b hb).1
    rw [← h, g1] at e1; cases e1
    rw [← g3, ← e3]

set_option maxHeartbeats 8000000 in
set_option maxRecDepth 100000 in
theorem one_any (n : Int) (v : Value) (xs : List Tr) (W : World) (h : SlS FT 4 W v xs) (hwf : ∀ t ∈ xs, (Lit.int .i64 t.ballot).wf = true) :
    Calls Try.prog 3 #[.int .i64 n, v] W fun e w' => e = .returned (.bool true) ∧ Below W.heap.size W w' := by
  obtain ⟨a, cap, rfl, hm⟩ := h.form
  by_cases hb : n < 1 ∨ 5 < n ∨ 120 < xs.length
  · have HX := Lib.hid (play_bad FT 4 n _ xs W h hb)
    clear h hb hwf
    go_enter Try.func3, Try.ntmps3
    go_wp2_with (go_at_call 7; (with_reducible refine HX.out.mono ?_); rintro e w1 ⟨rfl, hb1⟩)
    go_ret
    exact ⟨rfl, hb1.alloc hb1.size _⟩
  · obtain ⟨m, rfl⟩ := Int.eq_ofNat_of_zero_le (show 0 ≤ n by omega)
    have HX := Lib.hid (play_run m _ xs W h (by omega) (by omega) (by omega) hwf)
    have I := Inv.run xs (Inv.start m)
    have hvl := I.vl
    have hcl := runS_len xs (s0 m)
    have HP1 := Lib.hid (begun_run (n := m) xs).2
    have HP2 := Lib.hid (fun a ha => chosen_one (a := a) I ha)
    have HS0 := Lib.hid h
    clear h hwf I
    generalize (runS (s0 m) xs).2 = cs at *
    generalize (runS (s0 m) xs).1 = s at *
    have hcl' : ((cs.length : Int) != (xs.length : Int)) = false := by simp; omega
    have hvl' : ((s.vs.length : Int) != (m : Int)) = false := by simp; omega
    have HVL := Lib.hid hvl
    have HCL := Lib.hid hcl
    clear hvl hcl
    go_enter Try.func3, Try.ntmps3
    go_wp2_with (go_at_call 7; (with_reducible refine HX.out.mono ?_); rintro e w1 ⟨vc, vv, vf, vch, rfl, k1, k2, k3, k4, hb1⟩; obtain ⟨a1, c1, rfl, m1⟩ := k1.form; obtain ⟨a2, c2, rfl, m2⟩ := k2.form; obtain ⟨a3, c3, rfl, m3⟩ := k3.form; obtain ⟨a4, c4, rfl, m4⟩ := k4.form; have K1 := Lib.hid k1; have K3 := Lib.hid k3; have K4 := Lib.hid k4; clear k1 k2 k3 k4)
    have hbA := below_alloc w1 (.cells #[.slice a1 cs.length c1, .slice a2 s.vs.length c2, .slice a3 s.fl.length c3, .slice a4 s.ch.length c4] 27)
    refine wp_world (fun w2 => Below W.heap.size W w2 ∧ SlS FZ 1 w2 (.slice a1 cs.length c1) cs ∧ SlS FB 2 w2 (.slice a3 s.fl.length c3) s.fl ∧ SlS FB 2 w2 (.slice a4 s.ch.length c4) s.ch ∧ w1.heap.size < w2.heap.size ∧ w2.cell? ⟨w1.heap.size, 0, none⟩ = some (.slice a1 cs.length c1) ∧ w2.cell? ⟨w1.heap.size, 2, none⟩ = some (.slice a3 s.fl.length c3) ∧ w2.cell? ⟨w1.heap.size, 3, none⟩ = some (.slice a4 s.ch.length c4))
      ⟨hb1.trans (hbA.mono hb1.size), K1.out.below hbA, K3.out.below hbA, K4.out.below hbA, by simp, by rw [World.cell?_alloc_at _ _ _ _ rfl]; rfl, by rw [World.cell?_alloc_at _ _ _ _ rfl]; rfl, by rw [World.cell?_alloc_at _ _ _ _ rfl]; rfl⟩ ?_
    rintro w2 ⟨hW2, k1, k3, k4, hTl, z0, z2, z3⟩
    obtain ⟨T, hT⟩ : ∃ T, T = w1.heap.size := ⟨_, rfl⟩
    rw [← hT] at hTl z0 z2 z3 ⊢
    have HW2 := Lib.hid hW2
    have HK1 := Lib.hid k1
    have HK3 := Lib.hid k3
    have HK4 := Lib.hid k4
    have HKX := Lib.hid (HS0.out.below (hW2))
    clear hbA hT K1 K3 K4 hb1 hW2 k1 k3 k4
    go_loopw [47] (fun i wr => ∃ j : Nat, j ≤ s.fl.length ∧ i = .int .i64 j ∧ Below w2.heap.size w2 wr) (fun i _ => s.fl.length - (intOf i).toNat)
    case atStart => exact ⟨0, Nat.zero_le _, rfl, Below.refl _ _⟩
    case round =>
      obtain ⟨j, hj, rfl, hbw⟩ := hrel
      have y0 : wr.cell? ⟨T, 0, none⟩ = some (.slice a1 cs.length c1) := (hbw.cell (p := ⟨T, 0, none⟩) hTl).trans z0
      have y3 : wr.cell? ⟨T, 3, none⟩ = some (.slice a4 s.ch.length c4) := (hbw.cell (p := ⟨T, 3, none⟩) hTl).trans z3
      by_cases hlt : j < s.fl.length
      · obtain ⟨b, hb⟩ := get_of_lt hlt
        obtain ⟨b0, off, rfl, hb0, hcx⟩ := (HK3.out.below hbw).el hb
        have x0 : wr.cell? ⟨b0, off + j * 2, none⟩ = some (.int .i64 b.1) := hcx 0 _ rfl
        have x1 := hcx 1 _ rfl
        have HV := Lib.hid (HP1.out b (List.mem_of_getElem? hb))
        have HBW := Lib.hid hbw
        have i0 : (0 : Int) ≤ (j : Int) := by omega
        have i1 : (j : Int) < (s.fl.length : Int) := by omega
        clear hbw hb hcx
        go_wp2_with fail
        obtain ⟨wo, rfl⟩ : ∃ wo : World, wo = wr := ⟨_, rfl⟩
        have hbw' := HBW.out
        refine wp_world (fun w3 => Below w2.heap.size w2 w3 ∧ wo.heap.size < w3.heap.size ∧ w3.cell? ⟨wo.heap.size, 0, none⟩ = some (.int .i64 b.1) ∧ w3.cell? ⟨wo.heap.size, 1, none⟩ = some (.int .i64 b.2)) ⟨hbw'.alloc hbw'.size _, by simp, by rw [World.cell?_alloc_at _ _ _ _ rfl]; rfl, by rw [World.cell?_alloc_at _ _ _ _ rfl]; rfl⟩ ?_
        rintro w3 ⟨hb3, hUl, u0, u1⟩
        have HB3 := Lib.hid hb3
        clear x0 x1 y0 y3 HBW hbw' i0 i1 hb3
        go_loopw [9, 53] (fun f i wr => ∃ k : Nat, k ≤ xs.length ∧ i = .int .i64 k ∧ f = .bool (begB xs cs b.2 k) ∧ Below w3.heap.size w3 wr) (fun _ i _ => xs.length - (intOf i).toNat)
        case atStart => exact ⟨0, Nat.zero_le _, rfl, rfl, Below.refl _ _⟩
        case round =>
          obtain ⟨k, hk, rfl, rfl, hbr⟩ := hrel
          have t1 : wr.cell? ⟨wo.heap.size, 1, none⟩ = some (.int .i64 b.2) := (hbr.cell (p := ⟨wo.heap.size, 1, none⟩) hUl).trans u1
          have hUr := Nat.lt_of_lt_of_le hUl hbr.size
          have hbR := HB3.out.trans (hbr.mono HB3.out.size)
          have y0 : wr.cell? ⟨T, 0, none⟩ = some (.slice a1 cs.length c1) := (hbR.cell (p := ⟨T, 0, none⟩) hTl).trans z0
          have hTr := Nat.lt_of_lt_of_le hTl hbR.size
          have HBR := Lib.hid hbR
          by_cases hlt2 : k < xs.length
          · obtain ⟨t, ht⟩ := get_of_lt hlt2
            obtain ⟨c, hc⟩ := get_of_lt (show k < cs.length by have := HCL.out; omega)
            obtain ⟨b1, off1, rfl, hb1l, hcb⟩ := (HKX.out.below hbR).el ht
            obtain ⟨b2, off2, rfl, hb2l, hcc⟩ := (HK1.out.below hbR).el hc
            have q0 : wr.cell? ⟨b1, off1 + k * 4, none⟩ = some (.int .i64 t.kind) := hcb 0 _ rfl
            have q1 := hcb 1 _ rfl
            have q2 := hcb 2 _ rfl
            have q3 := hcb 3 _ rfl
            have r0 : wr.cell? ⟨b2, off2 + k, none⟩ = some (.int .i64 c) := by have := hcc 0 _ rfl; simpa using this
            have HSN := Lib.hid (begB_succ b.2 ht hc)
            have HBB := Lib.hid hbr
            have i0 : (0 : Int) ≤ (k : Int) := by omega
            have i1 : (k : Int) < (xs.length : Int) := by omega
            have i2 : (k : Int) < (cs.length : Int) := by have := HCL.out; omega
            clear hbr hbR ht hc hcb hcc u0 u1
            generalize begB xs cs b.2 k = pb at *
            cases pb
            all_goals
              go_wp2_with fail
              all_goals
                go_roundw
                case rel => exact ⟨k + 1, by omega, by go_num, by rw [HSN.out]; simp [*], HBB.out.alloc HBB.out.size _⟩
                case measure => simp [intOf]; omega
          · obtain rfl : k = xs.length := by omega
            rw [begB_of HV.out]
            clear hbr hbR
            go_wp2_with fail
            go_roundw
            case rel => exact ⟨j + 1, by omega, by go_num, HBR.out⟩
            case measure => simp [intOf]; omega
      · have hbw0 := Lib.hid hbw
        clear y0
        go_wp2_with fail
        obtain ⟨wp, rfl⟩ : ∃ wp : World, wp = wr := ⟨_, rfl⟩
        go_loopw [86] (fun i wr => ∃ j : Nat, j ≤ s.ch.length ∧ i = .int .i64 j ∧ Below w2.heap.size w2 wr) (fun i _ => s.ch.length - (intOf i).toNat)
        case atStart => exact ⟨0, Nat.zero_le _, rfl, hbw0.out⟩
        case round =>
          obtain ⟨j, hj, rfl, hbw⟩ := hrel
          have y2 : wr.cell? ⟨T, 2, none⟩ = some (.slice a3 s.fl.length c3) := (hbw.cell (p := ⟨T, 2, none⟩) hTl).trans z2
          have hTr := Nat.lt_of_lt_of_le hTl hbw.size
          clear y3
          by_cases hlt : j < s.ch.length
          · obtain ⟨b, hb⟩ := get_of_lt hlt
            obtain ⟨b0, off, rfl, hb0, hcx⟩ := (HK4.out.below hbw).el hb
            have x0 : wr.cell? ⟨b0, off + j * 2, none⟩ = some (.int .i64 b.1) := hcx 0 _ rfl
            have x1 := hcx 1 _ rfl
            have HV := Lib.hid (HP2.out b (List.mem_of_getElem? hb))
            have HBW := Lib.hid hbw
            have i0 : (0 : Int) ≤ (j : Int) := by omega
            have i1 : (j : Int) < (s.ch.length : Int) := by omega
            clear hbw hb hcx
            go_wp2_with fail
            obtain ⟨wo, rfl⟩ : ∃ wo : World, wo = wr := ⟨_, rfl⟩
            have hbw' := HBW.out
            refine wp_world (fun w3 => Below w2.heap.size w2 w3 ∧ wo.heap.size < w3.heap.size ∧ w3.cell? ⟨wo.heap.size, 0, none⟩ = some (.int .i64 b.1) ∧ w3.cell? ⟨wo.heap.size, 1, none⟩ = some (.int .i64 b.2)) ⟨hbw'.alloc hbw'.size _, by simp, by rw [World.cell?_alloc_at _ _ _ _ rfl]; rfl, by rw [World.cell?_alloc_at _ _ _ _ rfl]; rfl⟩ ?_
            rintro w3 ⟨hb3, hUl, u0, u1⟩
            have HB3 := Lib.hid hb3
            clear x0 x1 y2 hTr HBW hbw' i0 i1 hb3
            go_loopw [14, 93] (fun f i wr => ∃ k : Nat, k ≤ s.fl.length ∧ i = .int .i64 k ∧ f = .bool (eqB (s.fl.take k) b) ∧ Below w3.heap.size w3 wr) (fun _ i _ => s.fl.length - (intOf i).toNat)
            case atStart => exact ⟨0, Nat.zero_le _, rfl, rfl, Below.refl _ _⟩
            case round =>
              obtain ⟨k, hk, rfl, rfl, hbr⟩ := hrel
              have t0 : wr.cell? ⟨wo.heap.size, 0, none⟩ = some (.int .i64 b.1) := (hbr.cell (p := ⟨wo.heap.size, 0, none⟩) hUl).trans u0
              have t1 : wr.cell? ⟨wo.heap.size, 1, none⟩ = some (.int .i64 b.2) := (hbr.cell (p := ⟨wo.heap.size, 1, none⟩) hUl).trans u1
              have hUr := Nat.lt_of_lt_of_le hUl hbr.size
              have hbR := HB3.out.trans (hbr.mono HB3.out.size)
              have hTr := Nat.lt_of_lt_of_le hTl hbR.size
              have y3 : wr.cell? ⟨T, 3, none⟩ = some (.slice (some ⟨b0, off, none⟩) s.ch.length c4) := (hbR.cell (p := ⟨T, 3, none⟩) hTl).trans z3
              have HBR := Lib.hid hbR
              by_cases hlt2 : k < s.fl.length
              · obtain ⟨d, hd⟩ := get_of_lt hlt2
                obtain ⟨b1, off1, rfl, hb1l, hcb⟩ := (HK3.out.below hbR).el hd
                have q0 : wr.cell? ⟨b1, off1 + k * 2, none⟩ = some (.int .i64 d.1) := hcb 0 _ rfl
                have q1 := hcb 1 _ rfl
                have HSN := Lib.hid (show eqB (s.fl.take (k + 1)) b = (eqB (s.fl.take k) b || (b.1 == d.1 && b.2 == d.2)) by rw [take_of hd, eqB_snoc])
                have HD := Lib.hid (HV.out.2.1 d (List.mem_of_getElem? hd))
                have HBB := Lib.hid hbr
                have i0 : (0 : Int) ≤ (k : Int) := by omega
                have i1 : (k : Int) < (s.fl.length : Int) := by omega
                clear hbr hbR hd hcb u0 u1 y3
                generalize eqB (s.fl.take k) b = pb at *
                obtain ⟨d1, d2⟩ := d
                simp only at q0 q1 HSN HD
                by_cases e1 : d1 = b.1
                · subst e1
                  by_cases e2 : d2 = b.2
                  · subst e2
                    cases pb
                    all_goals
                      go_wp2_with fail
                      all_goals
                        go_roundw
                        case rel => exact ⟨k + 1, by omega, by go_num, by rw [HSN.out]; simp [*], HBB.out.alloc HBB.out.size _⟩
                        case measure => simp [intOf]; omega
                  · have e3 : ¬ b.2 = d2 := fun e => e2 e.symm
                    clear e2
                    cases pb
                    all_goals
                      go_wp2_with fail
                      all_goals
                        go_roundw
                        case rel => exact ⟨k + 1, by omega, by go_num, by rw [HSN.out]; simp [*], HBB.out.alloc HBB.out.size _⟩
                        case measure => simp [intOf]; omega
                · have e3 : ¬ b.1 = d1 := fun e => e1 e.symm
                  clear e1
                  by_cases hgt : b.1 < d1
                  · have hne : (d2 != b.2) = false := by simp [HD.out hgt]
                    cases pb
                    all_goals
                      go_wp2_with fail
                      all_goals
                        go_roundw
                        case rel => exact ⟨k + 1, by omega, by go_num, by rw [HSN.out]; simp [*], HBB.out.alloc HBB.out.size _⟩
                        case measure => simp [intOf]; omega
                  · have hgt' : d1 ≤ b.1 := by omega
                    cases pb
                    all_goals
                      go_wp2_with fail
                      all_goals
                        go_roundw
                        case rel => exact ⟨k + 1, by omega, by go_num, by rw [HSN.out]; simp [*], HBB.out.alloc HBB.out.size _⟩
                        case measure => simp [intOf]; omega
              · obtain rfl : k = s.fl.length := by omega
                rw [List.take_length, eqB_of HV.out.1]
                clear hbr hbR
                go_wp2_with fail
                obtain ⟨wq, rfl⟩ : ∃ wq : World, wq = wr := ⟨_, rfl⟩
                have hUq := hUr
                go_loopw [119] (fun i wr => ∃ k : Nat, k ≤ s.ch.length ∧ i = .int .i64 k ∧ Below wq.heap.size wq wr) (fun i _ => s.ch.length - (intOf i).toNat)
                case atStart => exact ⟨0, Nat.zero_le _, rfl, Below.refl _ _⟩
                case round =>
                  obtain ⟨k, hk, rfl, hbr⟩ := hrel
                  have t1' : wr.cell? ⟨wo.heap.size, 1, none⟩ = some (.int .i64 b.2) := (hbr.cell (p := ⟨wo.heap.size, 1, none⟩) hUq).trans t1
                  have hUr' := Nat.lt_of_lt_of_le hUq hbr.size
                  have hbR := HBR.out.trans (hbr.mono HBR.out.size)
                  have HBR2 := Lib.hid hbR
                  by_cases hlt2 : k < s.ch.length
                  · obtain ⟨d, hd⟩ := get_of_lt hlt2
                    obtain ⟨b1, off1, e1, hb1l, hcb⟩ := (HK4.out.below hbR).el hd
                    cases e1
                    have q0 : wr.cell? ⟨b0, off + k * 2, none⟩ = some (.int .i64 d.1) := hcb 0 _ rfl
                    have q1 := hcb 1 _ rfl
                    have hne : (b.2 != d.2) = false := by simp [HV.out.2.2 d (List.mem_of_getElem? hd)]
                    have HBB := Lib.hid hbr
                    have i0 : (0 : Int) ≤ (k : Int) := by omega
                    have i1 : (k : Int) < (s.ch.length : Int) := by omega
                    clear hbr hbR hd hcb
                    go_wp2_with fail
                    go_roundw
                    case rel => exact ⟨k + 1, by omega, by go_num, HBB.out.alloc HBB.out.size _⟩
                    case measure => simp [intOf]; omega
                  · clear hbr hbR
                    go_wp2_with fail
                    go_roundw
                    case rel => exact ⟨j + 1, by omega, by go_num, HBR2.out⟩
                    case measure => simp [intOf]; omega
          · go_wp2_with fail
            go_ret
            exact ⟨rfl, HW2.out.trans (hbw.mono HW2.out.size)⟩

end Go.Proofs.Ytbakeeempbadcaa
