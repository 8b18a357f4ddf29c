/- StableSame: its walk, and the plain law: of machines all of one state just the first is free. -/
import Derived.Test.YtejbbnejpbpdmaaA5
import Derived.Test.YtejbbnejpbpdmaaA6
namespace Go.Proofs.Ytejbbnejpbpdmaa
open Go.RowKit

theorem aheadF_rep (s : Int) (m i : Nat) (h : i < m) : aheadF (List.replicate m s) i = s := by
  unfold aheadF
  rw [List.length_replicate]
  have : (i + m - 1) % m < m := Nat.mod_lt _ (by omega)
  simp [List.getD, this]

theorem freeL_rep (s : Int) (m : Nat) (h : 0 < m) : freeL (List.replicate m s) = [0] := by
  unfold freeL
  rw [List.length_replicate]
  have hf : ∀ i, i < m → freeF (List.replicate m s) i = (i == 0) := fun i hi => by
    unfold freeF
    rw [aheadF_rep s m i hi]
    simp [List.getD, hi]
  obtain ⟨j, rfl⟩ : ∃ j, m = j + 1 := ⟨m - 1, by omega⟩
  have : (List.range (j + 1)).filter (freeF (List.replicate (j + 1) s)) = (List.range (j + 1)).filter (fun i => i == 0) :=
    List.filter_congr fun i hi => hf i (List.mem_range.1 hi)
  rw [this, List.range_succ_eq_map]
  simp

set_option maxHeartbeats 1000000 in
theorem stableSame_any (k s n : Int) (w : World) (hn0 : 0 ≤ n) (hn1 : n ≤ 255) :
    Calls Try.prog 3 #[.int .i64 k, .int .i64 s, .int .u8 n] w fun e w' => e = .returned (.bool true) ∧ Below w.heap.size w w' := by
  obtain ⟨m, hm⟩ : ∃ m : Nat, n % 8 = (m : Int) := ⟨(n % 8).toNat, by omega⟩
  have hm8 : m < 8 := by omega
  go_enter Try.func3, Try.ntmps3
  go_wp2
  go_loopw [7, 8] (fun v i wr => ∃ j : Nat, j ≤ m ∧ i = .int .i64 j ∧ Ow (Value.int .i64) wr w.heap.size 3 v (List.replicate j s) ∧ Below w.heap.size w wr) (fun _ i _ => m - (intOf i).toNat)
  case atStart => exact ⟨0, Nat.zero_le _, rfl, Ow.nil _ _ _, Below.refl _ _⟩
  case round =>
    obtain ⟨j, hj, rfl, hown, hb⟩ := hrel
    by_cases hlt : j < m
    · go_wp2_with (at_builtin; refine wpList_push _ rfl _ _ 22 rfl Try.eI w.heap.size (Value.int .i64) s hown rfl rfl rfl ?c1 ?c2 ?c3 ?_)
      case c1 => simp; omega
      case c2 => simp; omega
      case c3 => exact hb.size
      intro v' w' hown' hg' _
      go_wp2
      go_roundw
      case rel => exact ⟨j + 1, by omega, by go_num, by rw [List.replicate_succ']; exact hown', hb.trans (grown_below hg' hown (Nat.le_refl _) hb.size)⟩
      case measure => simp [intOf]; omega
    · obtain rfl : j = m := by omega
      go_wp2_with fail
      have hsl := hown.sl (by simp; omega)
      refine (freeCall_any k _ _ wr hsl).mono ?_
      rintro e w2 ⟨vf, rfl, hof, hb2⟩
      have hst := states_any k _ _ w2 (hsl.below hb2)
      have hbb := hb.trans (hb2.mono hb.size)
      by_cases hz : checkF k (List.replicate j s) = 0
      · have hpos : 0 < j := by have := (check_ok hz).1; simp at this; omega
        rw [if_pos hz, freeL_rep s j hpos] at hof
        obtain ⟨g, cp, rfl, _, _⟩ := hof.form_ne (by simp)
        have hc0 := hof.cell (j := 0) (x := 0) rfl
        have h00 : w2.cell? ⟨g, 0, none⟩ = some (.int .i64 0) := hc0
        rw [hz] at hst ⊢
        have HST := Lib.hid hst
        clear hst hz hc0
        go_wp2_with (go_at_call 8; refine HST.out.mono ?_; rintro e w3 ⟨rfl, rfl⟩)
        go_ret
        exact ⟨rfl, hbb⟩
      · have hb1 : (checkF k (List.replicate j s) == 0) = false := by simpa using hz
        have hb2' : (checkF k (List.replicate j s) != 0) = true := by simpa using hz
        rw [hb1] at hst
        generalize checkF k (List.replicate j s) = q at *
        have HST := Lib.hid hst
        clear hst hz
        go_wp2_with (go_at_call 8; refine HST.out.mono ?_; rintro e w3 ⟨rfl, rfl⟩)
        go_ret
        exact ⟨rfl, hbb⟩

end Go.Proofs.Ytejbbnejpbpdmaa
