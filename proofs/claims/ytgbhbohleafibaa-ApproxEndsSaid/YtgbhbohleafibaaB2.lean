/- The walk of ApproxEnds. -/
import Derived.Test.YtgbhbohleafibaaB1
namespace Go.Proofs.Ytgbhbohleafibaa
open Go.RowKit
set_option linter.unusedVariables false

set_option maxHeartbeats 4000000 in
set_option maxRecDepth 100000 in
theorem ends_law (f : Int) (x : Nat) (v vl : Value) (vs ls : List Int) (W : World) (h : SlS SZ 1 W v vs) (hl : SlS SZ 1 W vl ls) (hx : x < 4294967296) (hm : ls.length * 8 ≤ 140737488351232) (wf : (Lit.int .i64 f).wf = true) :
    Calls Try.prog 4 #[.int .i64 f, .int .u32 x, v, vl] W fun e w' => e = .returned (.bool true) ∧ Below W.heap.size W w' := by
  obtain ⟨av, cv, hv, hvm⟩ := h.form
  obtain ⟨al, cl, hvl, _⟩ := hl.form
  have HC := Lib.hid (check_any (W := W) f x h hl hx hm wf)
  have HFW := Lib.hid (fun w => few_any x vs.length f w hx (by omega) (by omega))
  by_cases ok : OkA f x vs ls
  · obtain ⟨h1, h9, hf0, hf3, hxn, hvf, hlf⟩ := id ok
    obtain ⟨f, rfl⟩ := Int.eq_ofNat_of_zero_le hf0
    have HR := Lib.hid (fun (w1 : World) (v1 : Value) (k : Nat) (hb : Below W.heap.size W w1) (h1 : SlS SZ 1 w1 v1 (manyL f x vs ls k)) => round_good (W := w1) f x h1 (hl.below hb).one (manyL_ok ok k) hx)
    have hml := manyL_len f x vs ls
    have HML := Lib.hid hml
    have HLY := Lib.hid (fun (w1 : World) (v1 : Value) (h1 : SlI w1 v1 (manyL f x vs ls 43)) => loyal_any (w := w1) x h1 (by rw [hml]; exact h9) hx)
    have HNR := Lib.hid (fun hf => many_near ok hf 43 (by omega))
    have HOK := Lib.hid ok
    have HST := Lib.hid h
    rw [hml] at HLY
    have HBD := Lib.hid (loy_bd (x := x) (manyL_ok ok 43).2.2.2.2.2.1 (hml 43))
    subst hv hvl
    clear h hl ok h1 h9 hf0 hf3 hxn hvf hlf hml
    go_enter Try.func4, Try.ntmps4
    go_wp2_with fail
    refine HC.out.mono ?_
    rintro e w1 ⟨⟨c', rfl, hc'⟩, hb1⟩
    obtain rfl : c' = 0 := hc'.2 HOK.out
    have HB1 := Lib.hid hb1
    clear hc' hb1
    go_wp2_with fail
    refine (HFW.out _).mono ?_
    rintro e w2 ⟨rfl, rfl⟩
    generalize hfe : fewF x vs.length f = fw at *
    cases fw
    · go_wp2_with fail
      go_ret
      exact ⟨rfl, HB1.out⟩
    · clear hfe
      go_wp2_with fail
      obtain ⟨wo, hwo⟩ : ∃ wo, wo = w1 := ⟨_, rfl⟩
      rw [← hwo] at HB1
      have HS1 := Lib.hid (HST.out.below HB1.out)
      rw [← hwo]
      clear hwo
      go_loopw [9, 10] (fun a i wr => ∃ (k : Nat) (a1 : Option Addr) (c1 : Nat), k ≤ 43 ∧ i = .int .i64 k ∧ a = .slice a1 vs.length c1 ∧ SlS SZ 1 wr (.slice a1 vs.length c1) (manyL f x vs ls k) ∧ Below W.heap.size W wr) (fun _ i _ => 43 - (intOf i).toNat)
      case atStart => exact ⟨0, _, _, by omega, rfl, rfl, HS1.out, HB1.out⟩
      case round =>
        obtain ⟨k, a1, c1, hk, rfl, rfl, hs, hb⟩ := hrel
        by_cases hlt : k < 43
        · have HX := Lib.hid (HR.out _ _ k hb hs)
          have HB := Lib.hid hb
          have HN := Lib.hid (show newL (f : Int).toNat x (manyL f x vs ls k) ls (manyL f x vs ls k).length = manyL f x vs ls (k + 1) from rfl)
          rw [HN.out] at HX
          have i0 : (0 : Int) ≤ (k : Int) := by omega
          have i1 : (k : Int) < 43 := by omega
          clear hs hb
          go_wp2_with fail
          refine HX.out.mono ?_
          rintro e w3 ⟨v', rfl, k1, hb1⟩
          obtain ⟨a2, c2, hv2, _⟩ := k1.form
          rw [HML.out] at hv2
          subst hv2
          have HK1 := Lib.hid k1
          have HB2 := Lib.hid (HB.out.trans (hb1.mono HB.out.size))
          have hnn : ((vs.length : Int) != (vs.length : Int)) = false := by simp
          clear k1 hb1
          go_wp2_with fail
          go_roundw
          case rel => exact ⟨k + 1, a2, c2, by omega, by go_num, rfl, HK1.out, HB2.out⟩
          case measure => simp [intOf]; omega
        · obtain rfl : k = 43 := by omega
          have HX := Lib.hid (HLY.out _ _ hs.one)
          have HB := Lib.hid hb
          clear hs hb
          go_wp2_with fail
          refine HX.out.mono ?_
          rintro e w3 ⟨v', rfl, k1, hb1⟩
          obtain ⟨a2, c2, rfl, _⟩ := k1.form
          have HK1 := Lib.hid k1
          have HB2 := Lib.hid (HB.out.trans (hb1.mono HB.out.size))
          clear k1 hb1
          obtain ⟨lo0, hi0, q1, q2⟩ := HNR.out (by first | trivial | rfl)
          have q3 : hi0 - lo0 ≤ 1 := by
            have : (2199023255552 : Int) / 2 ^ 43 = 0 := by decide
            omega
          by_cases hz : (loyL x (manyL f x vs ls 43) vs.length).length = 0
          · have hz' : (((loyL x (manyL f x vs ls 43) vs.length).length : Int) == 0) = true := by rw [cast_beq0]; exact beq_iff_eq.2 hz
            clear hz q1 q2 q3
            go_wp2_with fail
            go_ret
            exact ⟨rfl, HB2.out⟩
          · have hz' : (((loyL x (manyL f x vs ls 43) vs.length).length : Int) == 0) = false := by rw [cast_beq0]; exact beq_eq_false_iff_ne.2 hz
            have hne : loyL x (manyL f x vs ls 43) vs.length ≠ [] := fun e => hz (by rw [e]; rfl)
            have HE1 := Lib.hid (ends_any HK1.out.one hne)
            have HQ := Lib.hid (And.intro q2 q3)
            clear hz hne q1 q2 q3
            go_wp2_with fail
            refine HE1.out.mono ?_
            rintro e w6 ⟨⟨lo, hi, rfl, he1⟩, rfl⟩
            obtain ⟨t1, t2, t3⟩ := he1
            have s1 := HQ.out.1 lo t2
            have s2 := HQ.out.1 hi t3
            have s3 := HBD.out lo t2
            have s4 := HBD.out hi t3
            have s5 := HQ.out.2
            have p1 : hi - lo ≤ 1 := by omega
            have p2 : lo ≤ hi := (t1 lo t2).2
            have p6 : -1099511627776 ≤ lo := s3.1
            have p7 : hi ≤ 1099511627776 := s4.2
            clear t1 t2 t3 s1 s2 s3 s4 s5
            go_wp2_with fail
            all_goals first | (exfalso; omega) | skip
            go_ret
            exact ⟨rfl, HB2.out⟩
  · have HOK := Lib.hid ok
    subst hv hvl
    clear h hl ok
    go_enter Try.func4, Try.ntmps4
    go_wp2_with fail
    refine HC.out.mono ?_
    rintro e w2 ⟨⟨c', rfl, hc'⟩, hb2⟩
    have hc2 : (c' != 0) = true := by
      have : c' ≠ 0 := fun e => HOK.out (hc'.1 e)
      simpa using this
    have HB2 := Lib.hid hb2
    clear hc' hb2
    go_wp2_with fail
    go_ret
    exact ⟨rfl, HB2.out⟩

theorem ends_int (f x : Int) (a2 a3 : Option Addr) (n2 k2 n3 k3 : Nat) (vs ls : List Int) (W : World) (h : SlI W (.slice a2 n2 k2) vs) (h' : SlI W (.slice a3 n3 k3) ls) (c2 : n2 ≤ k2) (c3 : n3 ≤ k3) (hx : 0 ≤ x ∧ x ≤ 4294967295) (hm : n3 * 8 ≤ 140737488351232) (wf : (Lit.int .i64 f).wf = true) :
    Calls Try.prog 4 #[.int .i64 f, .int .u32 x, .slice a2 n2 k2, .slice a3 n3 k3] W fun e w' => e = .returned (.bool true) ∧ Below W.heap.size W w' := by
  obtain ⟨x, rfl⟩ := Int.eq_ofNat_of_zero_le hx.1
  exact ends_law f x _ _ vs ls W (h.sls c2) (h'.sls c3) (by omega) (by rw [← h'.len_eq]; exact hm) wf
end Go.Proofs.Ytgbhbohleafibaa
