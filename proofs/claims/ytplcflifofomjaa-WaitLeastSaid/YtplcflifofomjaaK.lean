/- The walks of the document's bits (Bit, Outside, Size, few). No condition. -/
import Derived.Test.YtplcflifofomjaaProg
import Derived.Test.YtplcflifofomjaaL6
namespace Go.Proofs.Ytplcflifofomjaa
open Go.RowKit

theorem bitF_nat {x i : Nat} (hi : i < 32) : bitF x (i : Int) = x.testBit i := by
  unfold bitF; rw [decide_eq_true (by omega), decide_eq_true (by omega)]; simp

set_option maxHeartbeats 400000 in
theorem bit_any (x : Nat) (i : Int) (w : World) (hx : x < 4294967296) :
    Calls Try.prog 13 #[.int .u32 x, .int .i64 i] w fun e w' => e = .returned (.bool (bitF x i)) ∧ w = w' := by
  by_cases h0 : i < 0
  · have hr : bitF x i = false := by unfold bitF; rw [decide_eq_false (by omega)]; rfl
    have HR := Lib.hid hr
    clear hr
    go_enter Try.func13, Try.ntmps13
    go_wp2
    go_ret
    exact ⟨ret_bool HR.out.symm, rfl⟩
  · by_cases h1 : 32 ≤ i
    · have hr : bitF x i = false := by unfold bitF; rw [decide_eq_false (show ¬ i < 32 by omega)]; simp
      have HR := Lib.hid hr
      clear hr
      go_enter Try.func13, Try.ntmps13
      go_wp2
      all_goals first | (exfalso; omega) | (go_ret; exact ⟨ret_bool HR.out.symm, rfl⟩)
    · obtain ⟨j, rfl⟩ := Int.eq_ofNat_of_zero_le (show 0 ≤ i by omega)
      have hj : j < 32 := by omega
      have hr := bitF_nat (x := x) hj
      have hb := u32_bit hx hj
      have HR := Lib.hid hr
      have HB := Lib.hid hb
      clear hr hb
      go_enter Try.func13, Try.ntmps13
      go_wp2
      all_goals first | (exfalso; omega) | (go_ret; exact ⟨ret_bool (HB.out.trans HR.out.symm), rfl⟩)

end Go.Proofs.Ytplcflifofomjaa
