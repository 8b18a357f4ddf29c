/- StableComes: its walk. -/
import Derived.Test.YtejbbnejpbpdmaaM3
import Derived.Test.YtejbbnejpbpdmaaA6
import Derived.Test.YtejbbnejpbpdmaaL5
namespace Go.Proofs.Ytejbbnejpbpdmaa
open Go.RowKit

/-- what holds of the states after some turns: b turns more and they have come right -/
def Come (k : Int) (n : Nat) (v b : Int) (X : List Int) : Prop := checkF k X = 0 ∧ X.length = n ∧ Soon n k v b (fn X)

theorem come_step {k : Int} {n : Nat} {v b : Int} {X : List Int} {i : Nat} (hv : 0 ≤ v ∧ v < k) (h : Come k n v b X) (hi : i ∈ freeL X) : Come k n v (b - 1) (X.set i (nextF k X i)) := by
  obtain ⟨h1, rfl, h3⟩ := h
  obtain ⟨h4, h5⟩ := free_of_mem hi
  obtain ⟨q1, q2, q3, q4, _⟩ := check_ok h1
  refine ⟨check_mv h1 h4, by rw [List.length_set], ?_⟩
  rw [set_mv h4]
  exact soon_step q1 q3 h4 hv (by rw [← freeF_fr h4]; exact h5) h3

theorem come_start {k : Int} {xs : List Int} (h : checkF k xs = 0) (hk : (xs.length : Int) ≤ k) : ∃ v, (0 ≤ v ∧ v < k) ∧ Come k xs.length v ((k + 1) * ((xs.length : Int) * ((xs.length : Int) - 1) / 2 + 1) - 1) xs := by
  obtain ⟨q1, q2, q3, q4, _⟩ := check_ok h
  obtain ⟨v, hv, hs⟩ := soon_start q1 q3 hk (valid_of h)
  exact ⟨v, hv, h, rfl, hs⟩

theorem come_end {k : Int} {n : Nat} {v b : Int} {X : List Int} (h : Come k n v b X) (hb : b < 0) : (freeL X).length = 1 := by
  obtain ⟨h1, rfl, h3⟩ := h
  obtain ⟨q1, _⟩ := check_ok h1
  obtain ⟨i, hi⟩ := soon_legit q1 h3 hb
  rw [freeL_frL, hi]; rfl

set_option maxHeartbeats 2000000 in
/-- one round's rest: the machine that was picked moves -/
theorem stableComes_any (k : Int) (v : Value) (xs : List Int) (vp : Value) (ps : List Int) (w : World) (h : SlI w v xs) (hp : Sl (Value.int .u8) w vp ps) (hpr : ∀ q ∈ ps, 0 ≤ q ∧ q ≤ 255) :
    Calls Try.prog 5 #[.int .i64 k, v, vp] w fun e w' => e = .returned (.bool true) ∧ Below w.heap.size w w' := by
  have h' := h
  have hp' := hp
  obtain ⟨a, cap, rfl, hm, hnn, hc⟩ := h
  obtain ⟨ap, capp, rfl, hmp, hnnp, hcp⟩ := hp
  clear hnn hc hnnp hcp
  have HFR := Lib.hid (freeCall_any k _ xs w h')
  have HST := Lib.hid (states_any k _ xs w h')
  by_cases hz : checkF k xs = 0
  · obtain ⟨q1, q2, q3, q4, _⟩ := check_ok hz
    rw [hz] at HST
    have HST1 := Lib.hid (fun w1 (hb : Below w.heap.size w w1) => states_any k _ xs w1 (h'.below hb))
    rw [hz] at HST1
    by_cases hout : k < (xs.length : Int) ∨ 12 < k
    · have HZ := Lib.hid hz
      clear hz
      rcases hout with hout | hout
      all_goals
        go_enter Try.func5, Try.ntmps5
        go_wp2_with (go_at_call 8; refine HST.out.mono ?_; rintro e w2 ⟨rfl, rfl⟩)
        all_goals first | (exfalso; omega) | skip
        refine HFR.out.mono ?_
        rintro e w1 ⟨vf, rfl, hof, hb1⟩
        rw [HZ.out]
        clear hof
        go_wp2_with (go_at_call 8; refine (HST1.out _ hb1).mono ?_; rintro e w2 ⟨rfl, rfl⟩)
        all_goals first | (exfalso; omega) | (go_ret; exact ⟨rfl, hb1⟩)
    · obtain ⟨o1, o2⟩ : (xs.length : Int) ≤ k ∧ k ≤ 12 := by omega
      obtain ⟨u, hu, hcome⟩ := come_start hz o1
      obtain ⟨P, hP⟩ : ∃ P, (xs.length : Int) * ((xs.length : Int) - 1) = P := ⟨_, rfl⟩
      have hP0 : 0 ≤ P ∧ P ≤ 30 := by
        rw [← hP]
        refine ⟨Int.mul_nonneg (by omega) (by omega), ?_⟩
        have := Int.mul_le_mul (show (xs.length : Int) ≤ 6 by omega) (show (xs.length : Int) - 1 ≤ 5 by omega) (by omega) (by omega)
        omega
      rw [hP] at hcome
      obtain ⟨M, hM⟩ : ∃ M, (k + 1) * (P / 2 + 1) = M := ⟨_, rfl⟩
      have hM0 : 0 ≤ M ∧ M ≤ 208 := by
        rw [← hM]
        refine ⟨Int.mul_nonneg (by omega) (by omega), ?_⟩
        have := Int.mul_le_mul (show k + 1 ≤ 13 by omega) (show P / 2 + 1 ≤ 16 by omega) (by omega) (by omega)
        omega
      rw [hM] at hcome
      obtain ⟨p0, p1⟩ := hP0
      obtain ⟨m0, m1⟩ := hM0
      have HC0 := Lib.hid hcome
      clear hcome hz hout
      go_enter Try.func5, Try.ntmps5
      go_wp2_with (go_at_call 8; refine HST.out.mono ?_; rintro e w2 ⟨rfl, rfl⟩)
      all_goals first | (exfalso; omega) | skip
      go_loopw [10, 11] (fun va i wr => ∃ (T : Nat) (X : List Int), (T : Int) ≤ M ∧ i = .int .i64 T ∧ SlI wr va X ∧ Come k xs.length u (M - 1 - T) X ∧ Below w.heap.size w wr) (fun _ i _ => (M - intOf i).toNat)
      case atStart => exact ⟨0, xs, by omega, rfl, h', by simpa using HC0.out, Below.refl _ _⟩
      case round =>
        obtain ⟨T, X, hT, rfl, hsa, hco, hbr⟩ := hrel
        have hsa' := hsa
        obtain ⟨aa, capa, rfl, _, _, hca⟩ := hsa
        clear hca
        have HFR1 := Lib.hid (freeCall_any k _ X wr hsa')
        have hX1 := hco.1
        have hX2 := hco.2.1
        have hfp := freeL_ne hX1
        have hfl := freeL_le X
        have HX1 := Lib.hid hX1
        have HCO := Lib.hid hco
        have hX2' : X.length ≤ 6 := by omega
        clear hX1 hX2 hco
        by_cases hlt : (T : Int) < M
        · go_wp2_with fail
          all_goals first | (exfalso; omega) | skip
          refine HFR1.out.mono ?_
          rintro e w2 ⟨vf, rfl, hof, hb2⟩
          rw [if_pos HX1.out] at hof
          rw [HX1.out]
          obtain ⟨g2, cp2, rfl, hg2, hgl2⟩ := hof.form_ne hfp
          have hy0 : (((freeL X).length : Int) == 0) = false := by rw [cast_beq0]; simp; intro h0; rw [h0] at hfp; cases hfp
          have hsr := hbr.size
          have hsa2 := Sl.below hsa' hb2
          have fin : ∀ x : Nat, x ∈ freeL X → Calls Try.prog 10 #[.int .i64 k, .slice aa X.length capa, .int .i64 x] w2 fun e w3 => ∃ vn, e = .returned (.tuple #[vn, .int .i64 0]) ∧ SlI w3 vn (X.set x (nextF k X x)) ∧ Below w2.heap.size w2 w3 := fun x hx => by
            refine (move_any k _ X (x : Int) w2 hsa2).mono ?_
            rintro e w3 ⟨vn, rfl, hon, hb3⟩
            rw [moveL_ok HX1.out hx] at hon
            exact ⟨vn, ret_pair rfl (moveCode_ok HX1.out hx), hon.sl (by simp; omega), hb3⟩
          have FIN := Lib.hid fin
          have HOF := Lib.hid hof
          clear fin hof
          by_cases hps : ps = []
          · have hpl : ps.length = 0 := by rw [hps]; rfl
            have hpl0 : ps.length ≤ 0 := by omega
            obtain ⟨x, hx⟩ := get_of_lt hfp
            have hcell : w2.cell? ⟨g2, 0, none⟩ = some (.int .i64 (x : Int)) := HOF.out.cell hx
            have FX := Lib.hid (FIN.out x (List.mem_of_getElem? hx))
            have HXM := Lib.hid (List.mem_of_getElem? hx)
            clear hpl hx hps
            go_wp2_with (go_at_call 10; refine FX.out.mono ?_; rintro e w3 ⟨vn, rfl, hsn, hb3⟩)
            all_goals first | (exfalso; omega) | skip
            go_roundw
            case rel => exact ⟨T + 1, _, by omega, by go_num, hsn, by have := come_step hu HCO.out HXM.out; rw [show M - 1 - ((T + 1 : Nat) : Int) = M - 1 - (T : Int) - 1 by omega]; exact this, (hbr.trans (hb2.mono hsr)).trans (hb3.mono (by have := hb2.size; omega))⟩
            case measure => simp [intOf]; omega
          · have hpp : 0 < ps.length := List.length_pos_iff.2 hps
            have hTl : T % ps.length < ps.length := Nat.mod_lt _ hpp
            obtain ⟨q, hq⟩ := get_of_lt hTl
            obtain ⟨hq0, hq1⟩ := hpr q (List.mem_of_getElem? hq)
            obtain ⟨aq, cq, e1, _, _, hcq⟩ := Sl.below hp' (hbr.trans (hb2.mono hsr))
            cases e1
            obtain ⟨bq, oq, rfl, hbq, hcellq⟩ := hcq _ q hq
            obtain ⟨j, hj⟩ : ∃ j : Nat, q % ((freeL X).length : Int) = (j : Int) := ⟨(q % ((freeL X).length : Int)).toNat, by have := Int.emod_nonneg q (show ((freeL X).length : Int) ≠ 0 by omega); omega⟩
            have hjl : j < (freeL X).length := by have := Int.emod_lt_of_pos q (show (0 : Int) < ((freeL X).length : Int) by omega); omega
            obtain ⟨x, hx⟩ := get_of_lt hjl
            have hcell : w2.cell? ⟨g2, j, none⟩ = some (.int .i64 (x : Int)) := HOF.out.cell hx
            have FX := Lib.hid (FIN.out x (List.mem_of_getElem? hx))
            have HXM := Lib.hid (List.mem_of_getElem? hx)
            have hpi : (0 : Int) < (ps.length : Int) := by omega
            clear hx hcq hq hps
            go_wp2_with (go_at_call 10; refine FX.out.mono ?_; rintro e w3 ⟨vn, rfl, hsn, hb3⟩)
            all_goals first | (exfalso; omega) | skip
            go_roundw
            case rel => exact ⟨T + 1, _, by omega, by go_num, hsn, by have := come_step hu HCO.out HXM.out; rw [show M - 1 - ((T + 1 : Nat) : Int) = M - 1 - (T : Int) - 1 by omega]; exact this, (hbr.trans (hb2.mono hsr)).trans (hb3.mono (by have := hb2.size; omega))⟩
            case measure => simp [intOf]; omega
        · have hend : (freeL X).length = 1 := come_end HCO.out (by omega)
          have HE := Lib.hid hend
          clear hend
          go_wp2_with fail
          all_goals first | (exfalso; omega) | skip
          refine HFR1.out.mono ?_
          rintro e w2 ⟨vf, rfl, hof, hb2⟩
          rw [if_pos HX1.out] at hof
          rw [HX1.out]
          obtain ⟨g2, cp2, rfl, hg2, hgl2⟩ := hof.form_ne hfp
          rw [HE.out]
          go_wp2
          go_ret
          exact ⟨rfl, hbr.trans (hb2.mono hbr.size)⟩
  · have HST1 := Lib.hid (fun w1 (hb : Below w.heap.size w w1) => states_any k _ xs w1 (h'.below hb))
    have hb1 : (checkF k xs == 0) = false := by simpa using hz
    have hb2' : (checkF k xs != 0) = true := by simpa using hz
    rw [hb1] at HST HST1
    go_enter Try.func5, Try.ntmps5
    go_wp2_with (go_at_call 8; refine HST.out.mono ?_; rintro e w2 ⟨rfl, rfl⟩)
    refine HFR.out.mono ?_
    rintro e w1 ⟨vf, rfl, hof, hbb⟩
    generalize checkF k xs = q at *
    clear hz hof
    go_wp2_with (go_at_call 8; refine (HST1.out _ hbb).mono ?_; rintro e w2 ⟨rfl, rfl⟩)
    go_ret
    exact ⟨rfl, hbb⟩

end Go.Proofs.Ytejbbnejpbpdmaa
