/- The walk of ApproxStill. -/
import Derived.Test.YtgbhbohleafibaaB3
namespace Go.Proofs.Ytgbhbohleafibaa
open Go.RowKit
set_option linter.unusedVariables false

set_option maxHeartbeats 8000000 in
set_option maxRecDepth 100000 in
theorem still_law (f : Int) (x : Nat) (n : Nat) (z : Int) (vl : Value) (ls : List Int) (W : World) (hl : SlS SZ 1 W vl ls) (hx : x < 4294967296) (hn : n ≤ 255) (hm : ls.length * 8 ≤ 140737488351232) (wf : (Lit.int .i64 f).wf = true) :
    Calls Try.prog 6 #[.int .i64 f, .int .u32 x, .int .u8 n, .int .i64 z, vl] W fun e w' => e = .returned (.bool true) ∧ Below W.heap.size W w' := by
  obtain ⟨al, cl, hvl, _⟩ := hl.form
  have HL := Lib.hid hl
  subst hvl
  clear hl
  have n0 : (0 : Int) ≤ (n : Int) := by omega
  have n1 : (n : Int) ≤ 255 := by omega
  have e1 : (n : Int) % 10 = ((n % 10 : Nat) : Int) := by omega
  have h10 : n % 10 < 10 := by omega
  generalize n % 10 = k at *
  go_enter Try.func6, Try.ntmps6
  go_wp2_with fail
  go_loopw [11, 12] (fun a i wr => ∃ (j : Nat) (v : Value), j ≤ k ∧ i = .int .i64 j ∧ a = v ∧ Sat W wr (Hp.own SZ 1 v (List.replicate j z) * 1)) (fun _ i _ => k - (intOf i).toNat)
  case atStart => exact ⟨0, _, Nat.zero_le _, rfl, rfl, (Sat.start W).nil SZ 1⟩
  case round =>
    obtain ⟨j, v, hj, rfl, rfl, hsat⟩ := hrel
    obtain ⟨av, cv, hv, _⟩ := hsat.ows.form
    rw [List.length_replicate] at hv
    subst hv
    have H0 := Lib.hid hsat
    have i0 : (0 : Int) ≤ (j : Int) := by omega
    by_cases hlt : j < k
    · have i1 : (j : Int) < (k : Int) := by omega
      have HN := Lib.hid (show List.replicate (j + 1) z = List.replicate j z ++ [z] from List.replicate_succ')
      clear hsat
      go_wp2_with (at_builtin; refine wpList_pushH rfl _ _ 23 rfl Try.eZ SZ SZ_len SZ_one z wr.heap.size rfl rfl (H0.out.alloc _ _ _ rfl) (by rw [List.length_replicate]; omega) (by rw [List.length_replicate]; omega) ?_; intro v' w3 hs' h'; have H7 := Lib.hid h'; clear h')
      go_roundw
      case rel => exact ⟨j + 1, _, by omega, by go_num, rfl, by rw [HN.out]; exact H7.out⟩
      case measure => simp [intOf]; omega
    · obtain rfl : j = k := by omega
      have hs := hsat.sls (by rw [List.length_replicate]; omega)
      have hb := hsat.below
      have hrl : (List.replicate j z).length = j := List.length_replicate
      have HR := Lib.hid (round_any f x hs (HL.out.below hb).one hx wf)
      have HC := Lib.hid (fun w1 (hb1 : Below wr.heap.size wr w1) => check_any (W := w1) f x (hs.below hb1) ((HL.out.below hb).below hb1) hx hm wf)
      have HB := Lib.hid hb
      have HST := Lib.hid (fun (q : Nat) ok hf => new_still (f := f.toNat) (x := x) (vs := List.replicate j z) (ls := ls) (z := z) (by have := (show OkA f x (List.replicate j z) ls from ok).2.2.2.1; have := (show OkA f x (List.replicate j z) ls from ok).2.2.1; omega) (show OkA f x (List.replicate j z) ls from ok).2.1 hf (fun y hy => (List.mem_replicate.1 hy).2) q)
      have HNL := Lib.hid (newL_len f.toNat x (List.replicate j z) ls j)
      have HNG := Lib.hid (fun q h => newL_get (f := f.toNat) (x := x) (vs := List.replicate j z) (ls := ls) (k := j) (i := q) h)
      have HFW := Lib.hid (fun w => few_any x j f w hx (by omega) (by omega))
      have HBT := Lib.hid (fun (i : Nat) w => bit_any x i w hx)
      rw [hrl] at HR HST
      have HRL := Lib.hid hrl
      clear hsat hs hb hrl
      generalize List.replicate j z = zs at *
      go_wp2_with fail
      refine HR.out.mono ?_
      rintro e w1 ⟨a1, m1, c1, ka, rfl, hk1, hs1, hb1⟩
      have HK1 := Lib.hid (And.intro hk1 hs1)
      have HB1 := Lib.hid (HB.out.trans (hb1.mono HB.out.size))
      have HB01 := Lib.hid hb1
      clear hk1 hs1 hb1
      go_wp2_with fail
      refine (HC.out _ HB01.out).mono ?_
      rintro e w2 ⟨⟨c', rfl, hc'⟩, hb2⟩
      have HB2 := Lib.hid (HB1.out.trans (hb2.mono HB1.out.size))
      have HB12 := Lib.hid hb2
      clear hb2
      by_cases ok : OkA f x zs ls
      · obtain rfl : c' = 0 := hc'.2 ok
        obtain rfl : ka = 0 := HK1.out.1.2 ok
        obtain ⟨rfl, hsa⟩ := HK1.out.2 ok
        have HSA := Lib.hid (hsa.below HB12.out)
        have HF0 := Lib.hid ok.2.2.1
        have HS2 := Lib.hid (fun q hf => HST.out q ok hf)
        clear ok hc' hsa
        have hne : ((m1 : Int) != (m1 : Int)) = false := by simp
        go_wp2_with fail
        go_loop [15] (fun i => ∃ j : Nat, j ≤ m1 ∧ i = .int .i64 j) (fun i => m1 - (intOf i).toNat)
        case atStart => exact ⟨0, Nat.zero_le _, rfl⟩
        case round =>
          obtain ⟨q, hq, rfl⟩ := hrel
          by_cases hlt2 : q < m1
          · obtain ⟨b0, off, rfl, _, y0⟩ := HSA.out.one.get1 (HNG.out q hlt2)
            have j0 : (0 : Int) ≤ (q : Int) := by omega
            have j1 : (q : Int) < (m1 : Int) := by omega
            have HFQ := Lib.hid (HFW.out w2)
            have HBQ := Lib.hid (HBT.out q w2)
            rw [bitF_nat (show q < 32 by omega)] at HBQ
            have hst : fewF x m1 f = true → newF f.toNat x zs ls q = z := fun hf => HS2.out q (by rw [Int.toNat_of_nonneg HF0.out]; exact hf)
            generalize newF f.toNat x zs ls q = y at *
            cases hf : fewF x m1 f
            · rw [hf] at HFQ
              clear hst hf
              go_wp2_with (go_at_call 10; (with_reducible refine HFQ.out.mono ?_); rintro e w' ⟨rfl, rfl⟩)
              go_round
              case rel => exact ⟨q + 1, by omega, by go_num⟩
              case measure => simp [intOf]; omega
            · obtain rfl := hst hf
              rw [hf] at HFQ
              clear hst hf
              have hne2 : (y != y) = false := by simp
              cases hb : x.testBit q
              all_goals
                rw [hb] at HBQ
                clear hb
                go_wp2_with (first | (go_at_call 10; (with_reducible refine HFQ.out.mono ?_); rintro e w' ⟨rfl, rfl⟩) | (go_at_call 12; (with_reducible refine HBQ.out.mono ?_); rintro e w' ⟨rfl, rfl⟩))
                go_round
                case rel => exact ⟨q + 1, by omega, by go_num⟩
                case measure => simp [intOf]; omega
          · go_wp2_with fail
            go_ret
            exact ⟨rfl, HB2.out⟩
      · have hc2 : (c' != 0) = true := by
          have : c' ≠ 0 := fun e => ok (hc'.1 e)
          simpa using this
        have hc3 : (ka != 0) = true := by
          have : ka ≠ 0 := fun e => ok (HK1.out.1.1 e)
          simpa using this
        clear hc' ok
        go_wp2_with fail
        go_ret
        exact ⟨rfl, HB2.out⟩

theorem still_int (f x n z : Int) (a4 : Option Addr) (n4 k4 : Nat) (ls : List Int) (W : World) (h' : SlI W (.slice a4 n4 k4) ls) (c4 : n4 ≤ k4) (hx : 0 ≤ x ∧ x ≤ 4294967295) (hn : 0 ≤ n ∧ n ≤ 255) (hm : n4 * 8 ≤ 140737488351232) (wf : (Lit.int .i64 f).wf = true) :
    Calls Try.prog 6 #[.int .i64 f, .int .u32 x, .int .u8 n, .int .i64 z, .slice a4 n4 k4] W fun e w' => e = .returned (.bool true) ∧ Below W.heap.size W w' := by
  obtain ⟨x, rfl⟩ := Int.eq_ofNat_of_zero_le hx.1
  obtain ⟨n, rfl⟩ := Int.eq_ofNat_of_zero_le hn.1
  exact still_law f x n z _ ls W (h'.sls c4) (by omega) (by omega) (by rw [← h'.len_eq]; exact hm) wf
end Go.Proofs.Ytgbhbohleafibaa
