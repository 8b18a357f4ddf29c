/- KingAgrees: its walk. -/
import Derived.Test.YthlhmilckenoaaaM1
namespace Go.Proofs.Ythlhmilckenoaaa
open Go.RowKit

theorem shr_ne {x m : Nat} (hx : x < 4294967296) (_hm : m ≤ 32) : x >>> m ≠ 0 ↔ outsideF x m = true := by
  constructor
  · intro h
    obtain ⟨i, hi⟩ := Nat.exists_testBit_of_ne_zero h
    rw [Nat.testBit_shiftRight] at hi
    have hlt : m + i < 32 := by
      refine Classical.byContradiction fun hge => ?_
      have : x.testBit (m + i) = false := Nat.testBit_lt_two_pow (Nat.lt_of_lt_of_le hx (Nat.pow_le_pow_right (n := 2) (by decide) (show 32 ≤ m + i by omega)))
      rw [this] at hi; cases hi
    exact outside_no hlt (by omega) hi
  · intro h h0
    obtain ⟨j, _, hb⟩ := List.any_eq_true.1 h
    simp only [Bool.and_eq_true, decide_eq_true_eq] at hb
    have : (x >>> m).testBit (j - m) = true := by rw [Nat.testBit_shiftRight, show m + (j - m) = j by omega]; exact hb.2
    rw [h0, Nat.zero_testBit] at this; cases this

theorem outside_or {a b m : Nat} : outsideF (a ||| b) m = (outsideF a m || outsideF b m) := by
  rw [Bool.eq_iff_iff, Bool.or_eq_true]
  unfold outsideF
  simp only [List.any_eq_true, List.mem_range, Bool.and_eq_true, decide_eq_true_eq, Nat.testBit_or, Bool.or_eq_true]
  constructor
  · rintro ⟨j, h1, h2, h3 | h3⟩
    · exact .inl ⟨j, h1, h2, h3⟩
    · exact .inr ⟨j, h1, h2, h3⟩
  · rintro (⟨j, h1, h2, h3⟩ | ⟨j, h1, h2, h3⟩)
    · exact ⟨j, h1, h2, .inl h3⟩
    · exact ⟨j, h1, h2, .inr h3⟩

theorem playC_eq {m s : Nat} {li vo : Nat} (h1 : 1 ≤ m) (h2 : m ≤ 9) (h3 : s < m) (hx : li < 4294967296) (hvx : vo < 4294967296) :
    playC (m : Int) (s : Int) li vo = if outsideF li m || outsideF vo m then 2 else 0 := by
  unfold playC
  rw [if_neg (by omega), Int.toNat_natCast, ← outside_or]
  have := shr_ne (x := li ||| vo) (m := m) (Nat.or_lt_two_pow (n := 32) hx hvx) (by omega)
  by_cases h : (li ||| vo) >>> m ≠ 0
  · rw [if_pos h, if_pos (this.1 h)]
  · rw [if_neg h, if_neg (fun h' => h (this.2 h'))]

theorem nL_le {li n : Nat} (hn : n ≤ 32) : nL li n ≤ sizeF li := by
  unfold nL sizeF
  rw [cnt_filter]; exact cnt_mono _ hn

def AgInv (li vo m : Nat) (b sm en sa fi : Bool) : Prop :=
  (sm = true → en = b ∧ ∃ j, j < m ∧ li.testBit j = false) ∧ (sm = false → ∀ j, j < m → li.testBit j = true) ∧ (sm = true → sa = true → ∀ j, j < m → li.testBit j = false → vo.testBit j = fi)

theorem ag_skip {li vo m : Nat} {b sm en sa fi : Bool} (h : AgInv li vo m b sm en sa fi) (hl : li.testBit m = true) : AgInv li vo (m + 1) b sm en sa fi := by
  obtain ⟨h1, h2, h3⟩ := h
  refine ⟨fun hs => ⟨(h1 hs).1, by obtain ⟨j, hj, hb⟩ := (h1 hs).2; exact ⟨j, by omega, hb⟩⟩, fun hs j hj => ?_, fun hs ha j hj hb => ?_⟩
  · by_cases hjm : j = m
    · rw [hjm]; exact hl
    · exact h2 hs j (by omega)
  · by_cases hjm : j = m
    · rw [hjm, hl] at hb; cases hb
    · exact h3 hs ha j (by omega) hb

theorem ag_step {li vo m : Nat} {b sm en sa fi : Bool} (h : AgInv li vo m b sm en sa fi) (hl : li.testBit m = false) : AgInv li vo (m + 1) b true b (sa && (!sm || (vo.testBit m == fi))) (vo.testBit m) := by
  obtain ⟨h1, h2, h3⟩ := h
  refine ⟨fun _ => ⟨rfl, m, by omega, hl⟩, fun hs => (by cases hs), fun _ ha j hj hb => ?_⟩
  by_cases hjm : j = m
  · rw [hjm]
  · cases sm with
    | false => have := h2 rfl j (by omega); rw [this] at hb; cases hb
    | true =>
      simp only [Bool.and_eq_true, Bool.not_true, Bool.false_or, beq_iff_eq] at ha
      rw [h3 rfl ha.1 j (by omega) hb, ha.2]

set_option maxHeartbeats 1000000 in
theorem kingAgrees_any (n t : Int) (li vo : Nat) (v : Value) (ls : List Nat) (w : World) (h : Sl U64 w v ls) (hls : ∀ q ∈ ls, q < 18446744073709551616) (hx : li < 4294967296) (hvx : vo < 4294967296) (hn64 : n ≤ 9223372036854775807) :
    Calls Try.prog 3 #[.int .i64 n, .int .i64 t, .int .u32 li, .int .u32 vo, v] w fun e w' => e = .returned (.bool true) ∧ Below w.heap.size w w' := by
  have HPL := Lib.hid (play_any n t li vo v ls w h hls hx hvx)
  obtain ⟨a, cap, rfl, hm, hnn, hc⟩ := h
  clear hc hnn hls
  by_cases hg : n < 1 ∨ 9 < n ∨ t < 0 ∨ n - 1 < t
  · have HC := Lib.hid (show playC n t li vo = 1 by unfold playC; rw [if_pos hg])
    by_cases g1 : n < 1
    · go_enter Try.func3, Try.ntmps3
      go_wp2_with fail
      refine HPL.out.mono ?_
      rintro e w1 ⟨vl, rfl, hol, hb1⟩
      rw [HC.out]
      go_wp2_with fail
      all_goals first | (exfalso; omega) | (go_ret; exact ⟨rfl, hb1⟩)
    · by_cases g2 : 9 < n
      · go_enter Try.func3, Try.ntmps3
        go_wp2_with fail
        refine HPL.out.mono ?_
        rintro e w1 ⟨vl, rfl, hol, hb1⟩
        rw [HC.out]
        go_wp2_with fail
        all_goals first | (exfalso; omega) | (go_ret; exact ⟨rfl, hb1⟩)
      · by_cases g3 : t < 0
        · go_enter Try.func3, Try.ntmps3
          go_wp2_with fail
          refine HPL.out.mono ?_
          rintro e w1 ⟨vl, rfl, hol, hb1⟩
          rw [HC.out]
          go_wp2_with fail
          all_goals first | (exfalso; omega) | (go_ret; exact ⟨rfl, hb1⟩)
        · have g4 : n - 1 < t := by omega
          clear hg
          go_enter Try.func3, Try.ntmps3
          go_wp2_with fail
          refine HPL.out.mono ?_
          rintro e w1 ⟨vl, rfl, hol, hb1⟩
          rw [HC.out]
          go_wp2_with fail
          all_goals first | (exfalso; omega) | (go_ret; exact ⟨rfl, hb1⟩)
  · obtain ⟨m, rfl⟩ := Int.eq_ofNat_of_zero_le (show 0 ≤ n by omega)
    obtain ⟨s, rfl⟩ := Int.eq_ofNat_of_zero_le (show 0 ≤ t by omega)
    obtain ⟨m1, m2, m3⟩ : 1 ≤ m ∧ m ≤ 9 ∧ s < m := by omega
    have hpc := playC_eq (s := s) m1 m2 m3 hx hvx
    have HO1 := Lib.hid (fun w => outside_any li (m : Int) w hx (by omega) (by omega))
    have HO2 := Lib.hid (fun w => outside_any vo (m : Int) w hvx (by omega) (by omega))
    clear hg
    by_cases ho : (outsideF li m || outsideF vo m) = true
    · rw [if_pos ho] at hpc
      have HC := Lib.hid hpc
      clear hpc
      cases h1 : outsideF li m
      all_goals
        cases h2 : outsideF vo m
        all_goals
          rw [h1] at HO1 ho
          rw [h2] at HO2 ho
          first
            | (simp at ho; done)
            | (clear h1 h2 ho
               go_enter Try.func3, Try.ntmps3
               go_wp2_with fail
               refine HPL.out.mono ?_
               rintro e w1 ⟨vl, rfl, hol, hb1⟩
               rw [HC.out]
               go_wp2_with (go_at_call 6; first | ((with_reducible refine (HO1.out _).mono ?_); rintro e w' ⟨rfl, rfl⟩) | ((with_reducible refine (HO2.out _).mono ?_); rintro e w' ⟨rfl, rfl⟩))
               all_goals first | (exfalso; omega) | (go_ret; exact ⟨rfl, hb1⟩))
    · rw [if_neg ho] at hpc
      have ho1 : outsideF li m = false := by cases h1 : outsideF li m <;> simp [h1] at ho ⊢
      have ho2 : outsideF vo m = false := by cases h2 : outsideF vo m <;> simp [ho1, h2] at ho ⊢
      rw [ho1] at HO1
      rw [ho2] at HO2
      have hpl : playL (m : Int) (s : Int) li vo ls = iterF m li ls (startF m vo) s (s + 1) := by unfold playL; rw [if_pos hpc, Int.toNat_natCast, Int.toNat_natCast]
      have hln : (iterF m li ls (startF m vo) s (s + 1)).length = m := iterF_len (by simp [startF]) _
      have HC := Lib.hid hpc
      have hfw := few_any li (m : Int) (s : Int)
      have hfe : fewF li (m : Int) (s : Int) = decide ((sizeF li : Int) ≤ (s : Int)) := by unfold fewF; rw [ho1]; rfl
      have HFW := Lib.hid (fun w => by have := hfw w hx (by omega) (by omega); rw [hfe] at this; exact this)
      have mi : (m : Int) ≠ 0 := by omega
      clear hfw hfe hpc ho ho1 ho2
      by_cases hq : m ≤ 4 * s
      · go_enter Try.func3, Try.ntmps3
        go_wp2_with fail
        refine HPL.out.mono ?_
        rintro e w1 ⟨vl, rfl, hol, hb1⟩
        rw [HC.out]
        rw [hpl] at hol
        obtain ⟨g, o, cp, rfl, hg, hgl, hcp⟩ := hol.form_ne (by rw [hln]; omega)
        rw [hln]
        clear hln hpl
        go_wp2_with (go_at_call 6; first | ((with_reducible refine (HO1.out _).mono ?_); rintro e w' ⟨rfl, rfl⟩) | ((with_reducible refine (HO2.out _).mono ?_); rintro e w' ⟨rfl, rfl⟩))
        all_goals first | (exfalso; omega) | (go_ret; exact ⟨rfl, hb1⟩)
      · by_cases hsz : sizeF li ≤ s
        · have hsd : decide ((sizeF li : Int) ≤ (s : Int)) = true := by simp; omega
          rw [hsd] at HFW
          obtain ⟨⟨b, hb⟩, hall⟩ := agrees (ls := ls) (vs := startF m vo) (show 4 * s < m by omega) (Nat.le_trans (nL_le (by omega)) hsz)
          have HB := Lib.hid hb
          have HALL := Lib.hid hall
          have HBI := Lib.hid (fun i w => bit_any li i w hx)
          have HBV := Lib.hid (fun i w => bit_any vo i w hvx)
          clear hb hall hsd
          go_enter Try.func3, Try.ntmps3
          go_wp2_with fail
          refine HPL.out.mono ?_
          rintro e w1 ⟨vl, rfl, hol, hb1⟩
          rw [HC.out]
          rw [hpl] at hol
          obtain ⟨g, o, cp, rfl, hg, hgl, hcp⟩ := hol.form_ne (by rw [hln]; omega)
          rw [hln]
          have HLN := Lib.hid hln
          have HOL := Lib.hid hol
          clear hln hpl hol hcp
          go_wp2_with (first | (go_at_call 6; first | ((with_reducible refine (HO1.out _).mono ?_); rintro e w' ⟨rfl, rfl⟩) | ((with_reducible refine (HO2.out _).mono ?_); rintro e w' ⟨rfl, rfl⟩)) | (go_at_call 7; (with_reducible refine (HFW.out _).mono ?_); rintro e w' ⟨rfl, rfl⟩))
          all_goals first | (exfalso; omega) | skip
          go_loop [13, 14, 15, 16, 17] (fun v13 v14 v15 v16 i => ∃ (j : Nat) (sm en sa fi : Bool), j ≤ m ∧ i = .int .i64 j ∧ v13 = .bool sm ∧ v14 = .bool en ∧ v15 = .bool sa ∧ v16 = .bool fi ∧ AgInv li vo j b sm en sa fi) (fun _ _ _ _ i => m - (intOf i).toNat)
          case atStart => exact ⟨0, false, false, true, false, Nat.zero_le _, rfl, rfl, rfl, rfl, rfl, fun h => (by cases h), fun _ j hj => by omega, fun h => (by cases h)⟩
          case round =>
            obtain ⟨j, sm, en, sa, fi, hj, rfl, rfl, rfl, rfl, rfl, hag⟩ := hrel
            have HAG := Lib.hid hag
            by_cases hjm : j < m
            · have hcell := HOL.out.cell (j := j) (i := 0) (x := (iterF m li ls (startF m vo) s (s + 1)).getD j false) (u := .bool ((iterF m li ls (startF m vo) s (s + 1)).getD j false)) (by rw [List.getD_eq_getElem?_getD, List.getElem?_eq_getElem (by rw [HLN.out]; exact hjm)]; rfl) rfl
              rw [Nat.mul_one, Nat.add_zero] at hcell
              have HB1 := Lib.hid (HBI.out (j : Int))
              have HB2 := Lib.hid (HBV.out (j : Int))
              cases hlj : li.testBit j
              · have hL : (iterF m li ls (startF m vo) s (s + 1)).getD j false = b := HB.out j hjm hlj
                rw [hL] at hcell
                rw [bitF_nat (by omega), hlj] at HB1
                rw [bitF_nat (by omega)] at HB2
                have hst := ag_step hag hlj
                have hen : sm = true → en = b := fun h => (hag.1 h).1
                have HST := Lib.hid hst
                clear hag hlj hL hst
                generalize vo.testBit j = x at *
                cases sm
                · clear hen
                  cases sa
                  all_goals
                    go_wp2_with (go_at_call 8; first | ((with_reducible refine (HB1.out _).mono ?_); rintro e w' ⟨rfl, rfl⟩) | ((with_reducible refine (HB2.out _).mono ?_); rintro e w' ⟨rfl, rfl⟩))
                    all_goals first | (exfalso; omega) | skip
                    go_round
                    case rel => exact ⟨j + 1, true, b, _, x, by omega, by go_num, rfl, rfl, rfl, rfl, by simpa using HST.out⟩
                    case measure => simp [intOf]; omega
                · obtain rfl := hen rfl
                  clear hen
                  cases sa
                  all_goals
                    cases fi
                    all_goals
                      cases x
                      all_goals
                        cases en
                        all_goals
                          go_wp2_with (go_at_call 8; first | ((with_reducible refine (HB1.out _).mono ?_); rintro e w' ⟨rfl, rfl⟩) | ((with_reducible refine (HB2.out _).mono ?_); rintro e w' ⟨rfl, rfl⟩))
                          all_goals first | (exfalso; omega) | skip
                          go_round
                          case rel => exact ⟨j + 1, true, _, _, _, by omega, by go_num, rfl, rfl, rfl, rfl, by simpa using HST.out⟩
                          case measure => simp [intOf]; omega
              · rw [bitF_nat (by omega), hlj] at HB1
                have HST := Lib.hid (ag_skip hag hlj)
                clear hag hlj hcell
                go_wp2_with (go_at_call 8; (with_reducible refine (HB1.out _).mono ?_); rintro e w' ⟨rfl, rfl⟩)
                all_goals first | (exfalso; omega) | skip
                go_round
                case rel => exact ⟨j + 1, sm, en, sa, fi, by omega, by go_num, rfl, rfl, rfl, rfl, HST.out⟩
                case measure => simp [intOf]; omega
            · obtain rfl : j = m := by omega
              have fin : sm = true → sa = true → en = fi := fun h1 h2 => by
                obtain ⟨e1, i, hi, hli⟩ := hag.1 h1
                have h3 : Hold li j (startF j vo) fi := fun i hi hl => by
                  unfold startF
                  rw [List.getD_eq_getElem?_getD, List.getElem?_map, List.getElem?_range hi]
                  exact hag.2.2 h1 h2 i hi hl
                have h4 := HALL.out fi h3 i hi hli
                rw [HB.out i hi hli] at h4
                rw [e1, h4]
              clear hag
              cases sm
              · clear fin
                cases sa
                all_goals
                  go_wp2_with fail
                  all_goals first | (exfalso; omega) | (go_ret; exact ⟨rfl, hb1⟩)
              · cases sa
                · clear fin
                  go_wp2_with fail
                  all_goals first | (exfalso; omega) | (go_ret; exact ⟨rfl, hb1⟩)
                · obtain rfl := fin rfl rfl
                  clear fin
                  go_wp2_with fail
                  all_goals first | (exfalso; omega) | (go_ret; exact ⟨by simp, hb1⟩)
        · have hsd : decide ((sizeF li : Int) ≤ (s : Int)) = false := by simp; omega
          rw [hsd] at HFW
          clear hsd
          go_enter Try.func3, Try.ntmps3
          go_wp2_with fail
          refine HPL.out.mono ?_
          rintro e w1 ⟨vl, rfl, hol, hb1⟩
          rw [HC.out]
          rw [hpl] at hol
          obtain ⟨g, o, cp, rfl, hg, hgl, hcp⟩ := hol.form_ne (by rw [hln]; omega)
          rw [hln]
          clear hln hpl hol
          go_wp2_with (first | (go_at_call 6; first | ((with_reducible refine (HO1.out _).mono ?_); rintro e w' ⟨rfl, rfl⟩) | ((with_reducible refine (HO2.out _).mono ?_); rintro e w' ⟨rfl, rfl⟩)) | (go_at_call 7; (with_reducible refine (HFW.out _).mono ?_); rintro e w' ⟨rfl, rfl⟩))
          all_goals first | (exfalso; omega) | (go_ret; exact ⟨rfl, hb1⟩)

end Go.Proofs.Ythlhmilckenoaaa
