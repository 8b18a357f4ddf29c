/- The walk of PaxosPromise. -/
import Derived.Test.YtbakeeempbadcaaA6
import Derived.Test.YtbakeeempbadcaaS4
import Derived.Test.YtbakeeempbadcaaM2
namespace Go.Proofs.Ytbakeeempbadcaa
open Go.RowKit
set_option linter.unusedVariables false

def promB (fl : List (Int × Int)) (v : Vt) : Bool := (v.tn == 0 && v.tv == 0) || fl.any (fun b => b.1 == v.tn && b.2 == v.tv)

theorem promB_nil (v : Vt) : promB [] v = (v.tn == 0 && v.tv == 0) := by unfold promB; simp
theorem promB_snoc (l : List (Int × Int)) (b : Int × Int) (v : Vt) : promB (l ++ [b]) v = (promB l v || (b.1 == v.tn && b.2 == v.tv)) := by unfold promB; simp [Bool.or_assoc]
theorem promB_of {l : List (Int × Int)} {v : Vt} (h : (v.tn = 0 ∧ v.tv = 0) ∨ (v.tn, v.tv) ∈ l) : promB l v = true := by
  unfold promB
  rcases h with ⟨h1, h2⟩ | h
  · simp [h1, h2]
  · simp only [Bool.or_eq_true]
    exact .inr (List.any_eq_true.2 ⟨_, h, by simp⟩)

set_option maxHeartbeats 4000000 in
theorem promise_any (n : Int) (v : Value) (xs : List Tr) (W : World) (h : SlS FT 4 W v xs) (hwf : ∀ t ∈ xs, (Lit.int .i64 t.ballot).wf = true) :
    Calls Try.prog 6 #[.int .i64 n, v] W fun e w' => e = .returned (.bool true) ∧ Below W.heap.size W w' := by
  have HB := Lib.hid (fun (w1 : World) (hb : Below W.heap.size W w1) => hb)
  obtain ⟨a, cap, rfl, hm⟩ := h.form
  by_cases hb : n < 1 ∨ 5 < n ∨ 120 < xs.length
  · have HX := Lib.hid (play_bad FT 4 n _ xs W h hb)
    clear h hb hwf
    go_enter Try.func6, Try.ntmps6
    go_wp2_with (go_at_call 7; (with_reducible refine HX.out.mono ?_); rintro e w1 ⟨rfl, hb1⟩)
    go_ret
    exact ⟨rfl, hb1.alloc hb1.size _⟩
  · obtain ⟨m, rfl⟩ := Int.eq_ofNat_of_zero_le (show 0 ≤ n by omega)
    have HX := Lib.hid (play_run m _ xs W h (by omega) (by omega) (by omega) hwf)
    have I := Inv.run xs (Inv.start m)
    have hvl := I.vl
    have hcl := runS_len xs (s0 m)
    have HP := Lib.hid (fun (i : Nat) (v : Vt) (hv : (runS (s0 m) xs).1.vs[i]? = some v) => I.vt i v hv)
    clear h hwf I
    generalize (runS (s0 m) xs).2 = cs at *
    generalize (runS (s0 m) xs).1 = s at *
    have hcl' : ((cs.length : Int) != (xs.length : Int)) = false := by simp; omega
    have hvl' : ((s.vs.length : Int) != (m : Int)) = false := by simp; omega
    have HVL := Lib.hid hvl
    have HCL := Lib.hid hcl
    clear hvl hcl
    go_enter Try.func6, Try.ntmps6
    go_wp2_with (go_at_call 7; (with_reducible refine HX.out.mono ?_); rintro e w1 ⟨vc, vv, vf, vch, rfl, k1, k2, k3, k4, hb1⟩; obtain ⟨a1, c1, rfl, m1⟩ := k1.form; obtain ⟨a2, c2, rfl, m2⟩ := k2.form; obtain ⟨a3, c3, rfl, m3⟩ := k3.form; obtain ⟨a4, c4, rfl, m4⟩ := k4.form; have K2 := Lib.hid k2; have K3 := Lib.hid k3; clear k1 k2 k3 k4)
    have HB2 := Lib.hid ((Below.refl w1.heap.size w1).alloc (Nat.le_refl _) (.cells #[.slice a1 cs.length c1, .slice a2 s.vs.length c2, .slice a3 s.fl.length c3, .slice a4 s.ch.length c4] 27))
    obtain ⟨w2, hw2⟩ : ∃ w2, w2 = w1.alloc (.cells #[.slice a1 cs.length c1, .slice a2 s.vs.length c2, .slice a3 s.fl.length c3, .slice a4 s.ch.length c4] 27) := ⟨_, rfl⟩
    obtain ⟨T, hT⟩ : ∃ T, T = w1.heap.size := ⟨_, rfl⟩
    have z1 : w2.cell? ⟨T, 1, none⟩ = some (.slice a2 s.vs.length c2) := by rw [hw2, hT, World.cell?_alloc_at _ _ _ _ rfl]; rfl
    have z2 : w2.cell? ⟨T, 2, none⟩ = some (.slice a3 s.fl.length c3) := by rw [hw2, hT, World.cell?_alloc_at _ _ _ _ rfl]; rfl
    have hTl : T < w2.heap.size := by rw [hw2, hT]; simp
    rw [← hw2] at HB2 ⊢
    rw [← hT] at ⊢
    have HK2 := Lib.hid (K2.out.below HB2.out)
    have HK3 := Lib.hid (K3.out.below HB2.out)
    have HW2 := Lib.hid (hb1.trans (HB2.out.mono hb1.size))
    clear hw2 hT K2 K3 hb1 HB2
    go_loopw [40] (fun i wr => ∃ j : Nat, j ≤ s.vs.length ∧ i = .int .i64 j ∧ Below w2.heap.size w2 wr) (fun i _ => s.vs.length - (intOf i).toNat)
    case atStart => exact ⟨0, Nat.zero_le _, rfl, Below.refl _ _⟩
    case round =>
      obtain ⟨j, hj, rfl, hbw⟩ := hrel
      have y2 : wr.cell? ⟨T, 2, none⟩ = some (.slice a3 s.fl.length c3) := (hbw.cell (p := ⟨T, 2, none⟩) hTl).trans z2
      have hTr := Nat.lt_of_lt_of_le hTl hbw.size
      by_cases hlt : j < s.vs.length
      · obtain ⟨v, hv⟩ := get_of_lt hlt
        obtain ⟨b0, off, rfl, hb0, hcx⟩ := (HK2.out.below hbw).el hv
        have x0 : wr.cell? ⟨b0, off + j * 3, none⟩ = some (.int .i64 v.pm) := hcx 0 _ rfl
        have x1 := hcx 1 _ rfl
        have x2 := hcx 2 _ rfl
        have HV := Lib.hid (HP.out j v hv)
        have HBW := Lib.hid hbw
        have i0 : (0 : Int) ≤ (j : Int) := by omega
        have i1 : (j : Int) < (s.vs.length : Int) := by omega
        clear hbw hv hcx
        go_wp2_with fail
        all_goals
          have HS9 : promB (s.fl.take 0) v = (v.tn == 0 && v.tv == 0) := promB_nil v
          obtain ⟨wo, rfl⟩ : ∃ wo : World, wo = wr := ⟨_, rfl⟩
          have hbw' := HBW.out
          refine wp_world (fun w3 => Below w2.heap.size w2 w3 ∧ wo.heap.size < w3.heap.size ∧ w3.cell? ⟨wo.heap.size, 0, none⟩ = some (.int .i64 v.pm) ∧ w3.cell? ⟨wo.heap.size, 1, none⟩ = some (.int .i64 v.tn) ∧ w3.cell? ⟨wo.heap.size, 2, none⟩ = some (.int .i64 v.tv)) ⟨hbw'.alloc hbw'.size _, by simp, by rw [World.cell?_alloc_at _ _ _ _ rfl]; simp [*], by rw [World.cell?_alloc_at _ _ _ _ rfl]; simp [*], by rw [World.cell?_alloc_at _ _ _ _ rfl]; simp [*]⟩ ?_
          rintro w3 ⟨hb3, hUl, u0, u1, u2⟩
          have HB3 := Lib.hid hb3
          clear x0 x1 x2 y2 hTr HBW hbw' i0 i1 hb3
          go_loopw [9, 51] (fun f i wr => ∃ k : Nat, k ≤ s.fl.length ∧ i = .int .i64 k ∧ f = .bool (promB (s.fl.take k) v) ∧ Below w3.heap.size w3 wr) (fun _ i _ => s.fl.length - (intOf i).toNat)
          case atStart => exact ⟨0, Nat.zero_le _, rfl, by rw [HS9]; simp [*], Below.refl _ _⟩
          case round =>
            obtain ⟨k, hk, rfl, rfl, hbr⟩ := hrel
            have t0 : wr.cell? ⟨wo.heap.size, 0, none⟩ = some (.int .i64 v.pm) := (hbr.cell (p := ⟨wo.heap.size, 0, none⟩) hUl).trans u0
            have t1 : wr.cell? ⟨wo.heap.size, 1, none⟩ = some (.int .i64 v.tn) := (hbr.cell (p := ⟨wo.heap.size, 1, none⟩) hUl).trans u1
            have t2 : wr.cell? ⟨wo.heap.size, 2, none⟩ = some (.int .i64 v.tv) := (hbr.cell (p := ⟨wo.heap.size, 2, none⟩) hUl).trans u2
            have hUr := Nat.lt_of_lt_of_le hUl hbr.size
            have HBR := Lib.hid (HB3.out.trans (hbr.mono HB3.out.size))
            by_cases hlt2 : k < s.fl.length
            · obtain ⟨b, hb2⟩ := get_of_lt hlt2
              obtain ⟨b1, off1, rfl, hb1l, hcb⟩ := (HK3.out.below HBR.out).el hb2
              have q0 : wr.cell? ⟨b1, off1 + k * 2, none⟩ = some (.int .i64 b.1) := hcb 0 _ rfl
              have q1 := hcb 1 _ rfl
              have HSN := Lib.hid (show promB (s.fl.take (k + 1)) v = (promB (s.fl.take k) v || (b.1 == v.tn && b.2 == v.tv)) by rw [take_of hb2, promB_snoc])
              have HBB := Lib.hid hbr
              have i0 : (0 : Int) ≤ (k : Int) := by omega
              have i1 : (k : Int) < (s.fl.length : Int) := by omega
              clear hbr hb2 hcb HS9 u0 u1 u2
              generalize promB (s.fl.take k) v = pb at *
              cases pb
              all_goals
                go_wp2_with fail
                all_goals
                  go_roundw
                  case rel => exact ⟨k + 1, by omega, by go_num, by rw [HSN.out]; simp [*], HBB.out.alloc HBB.out.size _⟩
                  case measure => simp [intOf]; omega
            · obtain rfl : k = s.fl.length := by omega
              rw [List.take_length, promB_of HV.out.2.2]
              have hpm : v.tn ≤ v.pm := HV.out.1
              go_wp2_with fail
              go_roundw
              case rel => exact ⟨j + 1, by omega, by go_num, HBR.out⟩
              case measure => simp [intOf]; omega
      · go_wp2_with fail
        go_ret
        exact ⟨rfl, HW2.out.trans (hbw.mono HW2.out.size)⟩

end Go.Proofs.Ytbakeeempbadcaa
