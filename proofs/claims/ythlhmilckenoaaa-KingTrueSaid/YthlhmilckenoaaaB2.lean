/- KingTrue: its walk; and both laws' walks for words as integers. -/
import Derived.Test.YthlhmilckenoaaaB1
namespace Go.Proofs.Ythlhmilckenoaaa
open Go.RowKit

theorem kingAgrees_int (n t a b : Int) (v : Value) (xs : List Int) (w : World) (h : Sl (Value.int .u64) w v xs) (hxs : ∀ x ∈ xs, 0 ≤ x ∧ x < 18446744073709551616) (ha : 0 ≤ a ∧ a < 4294967296) (hb : 0 ≤ b ∧ b < 4294967296) (hn : n ≤ 9223372036854775807) :
    Calls Try.prog 3 #[.int .i64 n, .int .i64 t, .int .u32 a, .int .u32 b, v] w fun e w' => e = .returned (.bool true) ∧ Below w.heap.size w w' := by
  obtain ⟨li, rfl⟩ := Int.eq_ofNat_of_zero_le ha.1
  obtain ⟨vo, rfl⟩ := Int.eq_ofNat_of_zero_le hb.1
  refine kingAgrees_any n t li vo v (xs.map Int.toNat) w (sl_nat h fun x hx => (hxs x hx).1) (fun q hq => ?_) (by omega) (by omega) hn
  obtain ⟨x, hx, rfl⟩ := List.mem_map.1 hq
  have := hxs x hx
  omega

theorem cnt_split (p : Nat → Bool) {m : Nat} (h : ∀ i, m ≤ i → p i = false) : ∀ d, cnt p (m + d) = cnt p m
  | 0 => rfl
  | d + 1 => by
    have ih := cnt_split p h d
    show cnt p (m + d) + (if p (m + d) then 1 else 0) = _
    rw [ih, h (m + d) (by omega)]; rfl

theorem size_T {vo m : Nat} (hm : m ≤ 32) (ho : outsideF vo m = false) : nT 0 (startF m vo) m = sizeF vo := by
  have h1 : nT 0 (startF m vo) m = cnt (fun i => vo.testBit i) m := by
    have e : ∀ q, q ≤ m → cnt (fun i => !(0 : Nat).testBit i && (startF m vo).getD i false) q = cnt (fun i => vo.testBit i) q := fun q => by
      induction q with
      | zero => intro _; rfl
      | succ q ih =>
        intro hq
        rw [cnt, cnt, ih (by omega)]
        have : (startF m vo).getD q false = vo.testBit q := by
          unfold startF
          rw [List.getD_eq_getElem?_getD, List.getElem?_map, List.getElem?_range (by omega)]; rfl
        simp only [this, Nat.zero_testBit, Bool.not_false, Bool.true_and]
    exact e m (Nat.le_refl _)
  rw [h1]
  unfold sizeF
  rw [cnt_filter]
  have h2 : ∀ i, i < 32 → m ≤ i → vo.testBit i = false := fun i hi hmi => by
    cases hb : vo.testBit i
    · rfl
    · rw [outside_no (n := (m : Int)) hi (by omega) hb] at ho; cases ho
  have h3 : cnt (fun i => vo.testBit i) 32 = cnt (fun i => decide (i < m) && vo.testBit i) 32 := by
    have e : ∀ q, q ≤ 32 → cnt (fun i => vo.testBit i) q = cnt (fun i => decide (i < m) && vo.testBit i) q := fun q => by
      induction q with
      | zero => intro _; rfl
      | succ q ih =>
        intro hq
        rw [cnt, cnt, ih (by omega)]
        by_cases hqm : q < m
        · simp [hqm]
        · simp [hqm, h2 q (by omega) (by omega)]
    exact e 32 (Nat.le_refl _)
  have h4 : cnt (fun i => decide (i < m) && vo.testBit i) m = cnt (fun i => vo.testBit i) m := by
    have e : ∀ q, q ≤ m → cnt (fun i => decide (i < m) && vo.testBit i) q = cnt (fun i => vo.testBit i) q := fun q => by
      induction q with
      | zero => intro _; rfl
      | succ q ih =>
        intro hq
        rw [cnt, cnt, ih (by omega)]
        simp [show q < m by omega]
    exact e m (Nat.le_refl _)
  have h5 := cnt_split (fun i => decide (i < m) && vo.testBit i) (m := m) (fun i hi => by simp; intro h; omega) (32 - m)
  rw [show m + (32 - m) = 32 by omega] at h5
  rw [h3, h5, h4]

set_option maxHeartbeats 1000000 in
theorem kingTrue_any (n t : Int) (vo : Nat) (v : Value) (ls : List Nat) (w : World) (h : Sl U64 w v ls) (hls : ∀ q ∈ ls, q < 18446744073709551616) (hvx : vo < 4294967296) :
    Calls Try.prog 4 #[.int .i64 n, .int .i64 t, .int .u32 vo, v] w fun e w' => e = .returned (.bool true) ∧ Below w.heap.size w w' := by
  have HPL := Lib.hid (play_any n t 0 vo v ls w h hls (by decide) hvx)
  obtain ⟨a, cap, rfl, hm, hnn, hc⟩ := h
  clear hc hnn hls
  by_cases hg : n < 1 ∨ 9 < n ∨ t < 0 ∨ n - 1 < t
  · have HC := Lib.hid (show playC n t 0 vo = 1 by unfold playC; rw [if_pos hg])
    by_cases g1 : n < 1
    · go_enter Try.func4, Try.ntmps4
      go_wp2_with fail
      refine HPL.out.mono ?_
      rintro e w1 ⟨vl, rfl, hol, hb1⟩
      rw [HC.out]
      go_wp2_with fail
      all_goals first | (exfalso; omega) | (go_ret; exact ⟨rfl, hb1⟩)
    · by_cases g2 : 9 < n
      · go_enter Try.func4, Try.ntmps4
        go_wp2_with fail
        refine HPL.out.mono ?_
        rintro e w1 ⟨vl, rfl, hol, hb1⟩
        rw [HC.out]
        go_wp2_with fail
        all_goals first | (exfalso; omega) | (go_ret; exact ⟨rfl, hb1⟩)
      · by_cases g3 : t < 0
        · go_enter Try.func4, Try.ntmps4
          go_wp2_with fail
          refine HPL.out.mono ?_
          rintro e w1 ⟨vl, rfl, hol, hb1⟩
          rw [HC.out]
          go_wp2_with fail
          all_goals first | (exfalso; omega) | (go_ret; exact ⟨rfl, hb1⟩)
        · have g4 : n - 1 < t := by omega
          clear hg
          go_enter Try.func4, Try.ntmps4
          go_wp2_with fail
          refine HPL.out.mono ?_
          rintro e w1 ⟨vl, rfl, hol, hb1⟩
          rw [HC.out]
          go_wp2_with fail
          all_goals first | (exfalso; omega) | (go_ret; exact ⟨rfl, hb1⟩)
  · obtain ⟨m, rfl⟩ := Int.eq_ofNat_of_zero_le (show 0 ≤ n by omega)
    obtain ⟨s, rfl⟩ := Int.eq_ofNat_of_zero_le (show 0 ≤ t by omega)
    obtain ⟨m1, m2, m3⟩ : 1 ≤ m ∧ m ≤ 9 ∧ s < m := by omega
    have hpc := playC_eq (s := s) m1 m2 m3 (show 0 < 4294967296 by decide) hvx
    have hz0 : outsideF 0 (m : Int) = false := outside_yes fun j _ _ => by simp
    rw [hz0, Bool.false_or] at hpc
    have HO2 := Lib.hid (fun w => outside_any vo (m : Int) w hvx (by omega) (by omega))
    clear hg hz0
    cases ho : outsideF vo m
    · rw [ho, if_neg (by decide)] at hpc
      rw [ho] at HO2
      have hpl : playL (m : Int) (s : Int) 0 vo ls = iterF m 0 ls (startF m vo) s (s + 1) := by unfold playL; rw [if_pos hpc, Int.toNat_natCast, Int.toNat_natCast]
      have hln : (iterF m 0 ls (startF m vo) s (s + 1)).length = m := iterF_len (by simp [startF]) _
      have htr := true_iter (ls := ls) (vs := startF m vo) (show s < m by omega) s (Nat.le_refl _)
      rw [size_T (by omega) ho] at htr
      have hsl : sizeF vo ≤ 32 := by unfold sizeF; have := List.length_filter_le (fun i => vo.testBit i) (List.range 32); simpa using this
      have HC := Lib.hid hpc
      have HTR := Lib.hid htr
      have HSZ := Lib.hid (fun w => size_any vo w hvx)
      clear hpc ho htr
      generalize sizeF vo = z at *
      go_enter Try.func4, Try.ntmps4
      go_wp2_with fail
      refine HPL.out.mono ?_
      rintro e w1 ⟨vl, rfl, hol, hb1⟩
      rw [HC.out]
      rw [hpl] at hol
      obtain ⟨g, o, cp, rfl, hg, hgl, hcp⟩ := hol.form_ne (by rw [hln]; omega)
      rw [hln]
      have HLN := Lib.hid hln
      have HOL := Lib.hid hol
      clear hln hpl hol hcp
      go_wp2_with (go_at_call 6; (with_reducible refine (HO2.out _).mono ?_); rintro e w' ⟨rfl, rfl⟩)
      all_goals first | (exfalso; omega) | skip
      go_loop [54] (fun i => ∃ (j : Nat), j ≤ m ∧ i = .int .i64 j) (fun i => m - (intOf i).toNat)
      case atStart => exact ⟨0, Nat.zero_le _, rfl⟩
      case round =>
        obtain ⟨j, hj, rfl⟩ := hrel
        by_cases hjm : j < m
        · have hcell := HOL.out.cell (j := j) (i := 0) (x := (iterF m 0 ls (startF m vo) s (s + 1)).getD j false) (u := .bool ((iterF m 0 ls (startF m vo) s (s + 1)).getD j false)) (by rw [List.getD_eq_getElem?_getD, List.getElem?_eq_getElem (by rw [HLN.out]; exact hjm)]; rfl) rfl
          rw [Nat.mul_one, Nat.add_zero, HTR.out j hjm] at hcell
          by_cases hz : m < 2 * z
          · rw [decide_eq_true hz] at hcell
            have hd : decide (2 * (z : Int) > (m : Int)) = true := by simp; omega
            go_wp2_with (go_at_call 9; (with_reducible refine (HSZ.out _).mono ?_); rintro e w' ⟨rfl, rfl⟩)
            all_goals first | (exfalso; omega) | skip
            go_round
            case rel => exact ⟨j + 1, by omega, by go_num⟩
            case measure => simp [intOf]; omega
          · rw [decide_eq_false hz] at hcell
            have hd : decide (2 * (z : Int) > (m : Int)) = false := by simp; omega
            go_wp2_with (go_at_call 9; (with_reducible refine (HSZ.out _).mono ?_); rintro e w' ⟨rfl, rfl⟩)
            all_goals first | (exfalso; omega) | skip
            go_round
            case rel => exact ⟨j + 1, by omega, by go_num⟩
            case measure => simp [intOf]; omega
        · obtain rfl : j = m := by omega
          go_wp2_with fail
          all_goals first | (exfalso; omega) | (go_ret; exact ⟨rfl, hb1⟩)
    · rw [ho, if_pos rfl] at hpc
      rw [ho] at HO2
      have HC := Lib.hid hpc
      clear hpc ho
      go_enter Try.func4, Try.ntmps4
      go_wp2_with fail
      refine HPL.out.mono ?_
      rintro e w1 ⟨vl, rfl, hol, hb1⟩
      rw [HC.out]
      go_wp2_with (go_at_call 6; (with_reducible refine (HO2.out _).mono ?_); rintro e w' ⟨rfl, rfl⟩)
      all_goals first | (exfalso; omega) | (go_ret; exact ⟨rfl, hb1⟩)

theorem kingTrue_int (n t b : Int) (v : Value) (xs : List Int) (w : World) (h : Sl (Value.int .u64) w v xs) (hxs : ∀ x ∈ xs, 0 ≤ x ∧ x < 18446744073709551616) (hb : 0 ≤ b ∧ b < 4294967296) :
    Calls Try.prog 4 #[.int .i64 n, .int .i64 t, .int .u32 b, v] w fun e w' => e = .returned (.bool true) ∧ Below w.heap.size w w' := by
  obtain ⟨vo, rfl⟩ := Int.eq_ofNat_of_zero_le hb.1
  refine kingTrue_any n t vo v (xs.map Int.toNat) w (sl_nat h fun x hx => (hxs x hx).1) (fun q hq => ?_) (by omega)
  obtain ⟨x, hx, rfl⟩ := List.mem_map.1 hq
  have := hxs x hx
  omega

end Go.Proofs.Ythlhmilckenoaaa
