/- The walks of the document's bits (Bit, Outside, Size, few). No condition. -/
import Derived.Test.YtpjkpnfelpfhaaaProg
import Derived.Test.YtpjkpnfelpfhaaaW2
namespace Go.Proofs.Ytpjkpnfelpfhaaa
open Go.RowKit

theorem bitF_nat {x i : Nat} (hi : i < 32) : bitF x (i : Int) = x.testBit i := by
  unfold bitF; rw [decide_eq_true (by omega), decide_eq_true (by omega)]; simp

set_option maxHeartbeats 400000 in
theorem bit_any (x : Nat) (i : Int) (w : World) (hx : x < 4294967296) :
    Calls Try.prog 29 #[.int .u32 x, .int .i64 i] w fun e w' => e = .returned (.bool (bitF x i)) ∧ w = w' := by
  by_cases h0 : i < 0
  · have hr : bitF x i = false := by unfold bitF; rw [decide_eq_false (by omega)]; rfl
    have HR := Lib.hid hr
    clear hr
    go_enter Try.func29, Try.ntmps29
    go_wp2
    go_ret
    exact ⟨ret_bool HR.out.symm, rfl⟩
  · by_cases h1 : 32 ≤ i
    · have hr : bitF x i = false := by unfold bitF; rw [decide_eq_false (show ¬ i < 32 by omega)]; simp
      have HR := Lib.hid hr
      clear hr
      go_enter Try.func29, Try.ntmps29
      go_wp2
      all_goals first | (exfalso; omega) | (go_ret; exact ⟨ret_bool HR.out.symm, rfl⟩)
    · obtain ⟨j, rfl⟩ := Int.eq_ofNat_of_zero_le (show 0 ≤ i by omega)
      have hj : j < 32 := by omega
      have hr := bitF_nat (x := x) hj
      have hb := u32_bit hx hj
      have HR := Lib.hid hr
      have HB := Lib.hid hb
      clear hr hb
      go_enter Try.func29, Try.ntmps29
      go_wp2
      all_goals first | (exfalso; omega) | (go_ret; exact ⟨ret_bool (HB.out.trans HR.out.symm), rfl⟩)

theorem outside_no {x : Nat} {n : Int} {j : Nat} (h : j < 32) (hn : n ≤ j) (hb : x.testBit j = true) : outsideF x n = true :=
  List.any_eq_true.2 ⟨j, List.mem_range.2 h, by rw [hb, decide_eq_true hn]; rfl⟩
theorem outside_yes {x : Nat} {n : Int} (h : ∀ j : Nat, j < 32 → n ≤ j → x.testBit j = false) : outsideF x n = false := by
  rw [Bool.eq_false_iff]
  intro hc
  obtain ⟨j, hj, hb⟩ := List.any_eq_true.1 hc
  rw [List.mem_range] at hj
  simp only [Bool.and_eq_true, decide_eq_true_eq] at hb
  rw [h j hj hb.1] at hb
  cases hb.2

set_option maxHeartbeats 400000 in
theorem outside_any (x : Nat) (n : Int) (w : World) (hx : x < 4294967296) (hn : 0 ≤ n) (hn2 : n ≤ 9223372036854775807) :
    Calls Try.prog 17 #[.int .u32 x, .int .i64 n] w fun e w' => e = .returned (.bool (outsideF x n)) ∧ w = w' := by
  have HB := Lib.hid (fun (i : Int) w => bit_any x i w hx)
  obtain ⟨m, rfl⟩ := Int.eq_ofNat_of_zero_le hn
  go_enter Try.func17, Try.ntmps17
  go_wp2
  go_loop [5] (fun i => ∃ k : Nat, m ≤ k ∧ (k ≤ 32 ∨ k = m) ∧ i = .int .i64 k ∧ ∀ j : Nat, j < k → m ≤ j → x.testBit j = false) (fun i => 32 - (intOf i).toNat)
  case atStart => exact ⟨m, Nat.le_refl _, .inr rfl, rfl, fun j h1 h2 => by omega⟩
  case round =>
    obtain ⟨k, hk, hk2, rfl, hno⟩ := hrel
    have HNO := Lib.hid hno
    clear hno
    by_cases hlt : k < 32
    · have HK := Lib.hid (HB.out (k : Int))
      cases hb : bitF x (k : Int)
      · have HBF := Lib.hid hb
        rw [hb] at HK
        clear hb
        go_wp2_with (go_at_call 29; refine (HK.out _).mono ?_; rintro e w' ⟨rfl, rfl⟩)
        all_goals first | (exfalso; omega) | skip
        go_round
        case rel =>
          refine ⟨k + 1, by omega, .inl (by omega), by go_num, fun j h1 h2 => ?_⟩
          by_cases hjk : j = k
          · subst hjk; rw [← bitF_nat hlt]; exact HBF.out
          · exact HNO.out j (by omega) h2
        case measure => simp [intOf]; omega
      · have HBT := Lib.hid hb
        rw [hb] at HK
        clear hb
        go_wp2_with (go_at_call 29; refine (HK.out _).mono ?_; rintro e w' ⟨rfl, rfl⟩)
        all_goals first | (exfalso; omega) | skip
        go_ret
        exact ⟨ret_bool (outside_no hlt (by omega) (by rw [← bitF_nat hlt]; exact HBT.out)).symm, rfl⟩
    · go_wp2
      all_goals first | (exfalso; omega) | skip
      go_ret
      exact ⟨ret_bool (outside_yes (fun j h1 h2 => HNO.out j (by omega) (by omega))).symm, rfl⟩

set_option maxHeartbeats 400000 in
theorem size_any (x : Nat) (w : World) (hx : x < 4294967296) :
    Calls Try.prog 16 #[.int .u32 x] w fun e w' => e = .returned (.int .i64 (sizeF x)) ∧ w = w' := by
  have HB := Lib.hid (fun (i : Int) w => bit_any x i w hx)
  go_enter Try.func16, Try.ntmps16
  go_wp2
  go_loop [3, 4] (fun s i => ∃ k : Nat, k ≤ 32 ∧ i = .int .i64 k ∧ s = .int .i64 (((List.range k).filter fun i => x.testBit i).length : Nat)) (fun _ i => 32 - (intOf i).toNat)
  case atStart => exact ⟨0, by omega, rfl, rfl⟩
  case round =>
    obtain ⟨k, hk, rfl, rfl⟩ := hrel
    have hle := List.length_filter_le (fun i => x.testBit i) (List.range k)
    rw [List.length_range] at hle
    by_cases hlt : k < 32
    · have HK := Lib.hid (HB.out (k : Int))
      have hs : (List.range (k + 1)).filter (fun i => x.testBit i) = (List.range k).filter (fun i => x.testBit i) ++ (if x.testBit k then [k] else []) := by
        rw [List.range_succ, List.filter_append]; congr 1; cases h : x.testBit k <;> simp [h]
      have HS := Lib.hid hs
      clear hs
      cases hb : x.testBit k
      · rw [bitF_nat hlt, hb] at HK
        rw [hb] at HS
        clear hb
        go_wp2_with (go_at_call 29; refine (HK.out _).mono ?_; rintro e w' ⟨rfl, rfl⟩)
        all_goals first | (exfalso; omega) | skip
        go_round
        case rel => exact ⟨k + 1, by omega, by go_num, by rw [HS.out]; simp⟩
        case measure => simp [intOf]; omega
      · rw [bitF_nat hlt, hb] at HK
        rw [hb] at HS
        clear hb
        go_wp2_with (go_at_call 29; refine (HK.out _).mono ?_; rintro e w' ⟨rfl, rfl⟩)
        all_goals first | (exfalso; omega) | skip
        go_round
        case rel => exact ⟨k + 1, by omega, by go_num, by rw [HS.out]; simp⟩
        case measure => simp [intOf]; omega
    · obtain rfl : k = 32 := by omega
      go_wp2
      all_goals first | (exfalso; omega) | skip
      go_ret
      exact ⟨rfl, rfl⟩

end Go.Proofs.Ytpjkpnfelpfhaaa
