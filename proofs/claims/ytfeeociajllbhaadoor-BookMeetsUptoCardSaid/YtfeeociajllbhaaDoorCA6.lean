/- Path. -/
import Derived.Test.YtfeeociajllbhaaDoorCA5
import Derived.Test.YtfeeociajllbhaaDoorW1
namespace Go.Proofs.YtfeeociajllbhaaDoor
open Go.RowKit
set_option linter.unusedVariables false
namespace Chn
def OkP (l : List (Int × Int)) (b : Int) : Prop := OkC l ∧ 0 ≤ b ∧ b < l.length
def pathL (l : List (Int × Int)) (b : Nat) : List Int := (nI (ups l b b)).reverse
theorem pathL_len (l : List (Int × Int)) (b : Nat) : (pathL l b).length = (ups l b b).length := by simp [pathL, nI]
theorem pathL_le (l : List (Int × Int)) (b : Nat) : (pathL l b).length ≤ b + 1 := by rw [pathL_len]; exact ups_len l b b
theorem pathL_pos (l : List (Int × Int)) (b : Nat) : 0 < (pathL l b).length := by rw [pathL_len]; obtain ⟨t, ht⟩ := ups_cons l b b; rw [ht]; simp

end Chn
theorem OwS.some_of {α : Type} {f : α → List Value} {sz base : Nat} {w : World} {v : Value} {xs : List α} (h : OwS f sz w base v xs) (h0 : xs ≠ []) : ∃ g o c, v = .slice (some ⟨g, o, none⟩) xs.length c := by
  rcases h with ⟨_, h⟩ | ⟨g, o, c, h, _⟩
  · exact absurd h h0
  · exact ⟨g, o, c, h⟩

namespace Chn
set_option maxHeartbeats 4000000 in
theorem path_any {W : World} {v : Value} {l : List (Int × Int)} (b : Int) (h : SlS FK 2 W v l) :
    Calls Tryd.prog 12 #[v, .int .i64 b] W fun e w' => (∃ (pv : Value) (c : Int), e = .returned (.tuple #[pv, .int .i64 c]) ∧ (c = 0 ↔ OkP l b) ∧ (c ≠ 0 → pv = .slice none 0 0) ∧ (c = 0 → Sat W w' (Hp.own SZ 1 pv (pathL l b.toNat) * 1))) ∧ Below W.heap.size W w' := by
  have HC := Lib.hid (check_any h)
  obtain ⟨ad, cap, rfl, hm⟩ := h.form
  have HS := Lib.hid h
  clear h
  by_cases hab : 0 ≤ b ∧ b < l.length
  rotate_left
  · have HN := Lib.hid (show ¬ OkP l b from fun h => hab h.2)
    have hor : b < 0 ∨ (0 ≤ b ∧ (l.length : Int) ≤ b) := by omega
    clear hab
    go_enter Tryd.func12, Tryd.ntmps12
    go_wp2_with fail
    refine HC.out.mono ?_
    rintro e w' ⟨⟨c, rfl, hc⟩, hb⟩
    have HB := Lib.hid hb
    clear hb hc
    by_cases hc : c = 0
    · subst hc
      go_wp2_with fail
      all_goals first | (exfalso; omega) | skip
      all_goals
        go_ret2
        exact ⟨⟨_, 2, rfl, by simp [HN.out], fun _ => rfl, fun h => by simp at h⟩, HB.out⟩
    · have hc1 : (c != 0) = true := by simpa using hc
      have hc2 : (c == 0) = false := by simpa using hc
      have HC0 := Lib.hid hc
      clear hor
      go_wp2_with fail
      go_ret2
      exact ⟨⟨_, c, rfl, by simp [HN.out, HC0.out], fun _ => rfl, fun h => absurd h HC0.out⟩, HB.out⟩
  obtain ⟨b0, b1⟩ := id hab
  have HAB := Lib.hid hab
  have hd0 : decide (b < 0) = false := decide_eq_false (by omega)
  have hd1 : decide ((l.length : Int) ≤ b) = false := decide_eq_false (by omega)
  clear hab
  go_enter Tryd.func12, Tryd.ntmps12
  go_wp2_with fail
  refine HC.out.mono ?_
  rintro e w1 ⟨⟨c, rfl, hc⟩, hb⟩
  have HB := Lib.hid hb
  have HCC := Lib.hid hc
  clear hb hc
  by_cases hc : c = 0
  rotate_left
  · have hc1 : (c != 0) = true := by simpa using hc
    have hc2 : (c == 0) = false := by simpa using hc
    have HN := Lib.hid (show ¬ OkP l b from fun h => hc (HCC.out.2 h.1))
    have HC0 := Lib.hid hc
    clear hc
    go_wp2_with fail
    go_ret2
    exact ⟨⟨_, c, rfl, by simp [HN.out, HC0.out], fun _ => rfl, fun h => absurd h HC0.out⟩, HB.out⟩
  subst hc
  have HOK := Lib.hid (HCC.out.1 rfl)
  have HS1 := Lib.hid (HS.out.below HB.out)
  have HU := Lib.hid (HOK.out.ups_up b.toNat b.toNat (Nat.le_refl _) (by omega))
  have HL := Lib.hid (show (ups l b.toNat b.toNat).length ≤ 40 by have := ups_len l b.toNat b.toNat; have := HOK.out.few; omega)
  have HA := Lib.hid (show at1 (ups l b.toNat b.toNat) 0 = b by unfold at1; rw [ups_first]; exact Int.toNat_of_nonneg b0)
  have HP := Lib.hid (pathL_le l b.toNat)
  have HP0 := Lib.hid (pathL_pos l b.toNat)
  go_wp2_with fail
  all_goals first | (exfalso; omega) | skip
  refine (upf_any (W := w1) (R := 1) (Sat.start w1) rfl).mono ?_
  rintro e w2 ⟨Bb, Bl, rfl, hs2⟩
  rw [← HA.out] at hs2
  have H2 := Lib.hid hs2
  clear hs2
  go_wp2_with fail
  refine (collect_any (W := w1) (xs := at1 (ups l b.toNat b.toNat)) (n := (ups l b.toNat b.toNat).length) (fun args w => rfl) (by have := HL.out; omega) H2.out (fun lp B w hy hs => up_any HS1.out HU.out HOK.out.few hy hs)).mono ?_
  rintro e w3 ⟨pv, rfl, hs3⟩
  rw [at1_map] at hs3
  obtain ⟨g, o, c, rfl⟩ := hs3.ows.some_of (by intro e; have := HP0.out; simp [pathL, e] at this)
  have HLN := Lib.hid (show (nI (ups l b.toNat b.toNat)).length = (pathL l b.toNat).length by simp [pathL])
  have HR := Lib.hid (reverse_any hs3 rfl (by rw [HLN.out]; have := HP.out; have := HOK.out.few; omega) (by rw [HLN.out]; exact HP0.out))
  clear hs3
  go_wp2_with fail
  refine HR.out.mono ?_
  rintro e w4 ⟨⟨u, rfl⟩, hs4⟩
  have HS4 := Lib.hid (show Sat W w4 (Hp.own SZ 1 _ (pathL l b.toNat) * 1) from (((Sat.ofBelow HB.out).nest hs4).assoc).sw.drop)
  have HB4 := Lib.hid (HB.out.trans (hs4.below.mono HB.out.size))
  clear hs4
  go_wp2_with fail
  go_ret2
  exact ⟨⟨_, 0, rfl, ⟨fun _ => ⟨HOK.out, HAB.out⟩, fun _ => rfl⟩, fun h => absurd rfl h, fun _ => HS4.out⟩, HB4.out⟩
end Chn
end Go.Proofs.YtfeeociajllbhaaDoor
