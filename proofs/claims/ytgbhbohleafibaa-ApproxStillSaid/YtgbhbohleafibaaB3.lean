/- The walk of ApproxOrder. -/
import Derived.Test.YtgbhbohleafibaaB1
namespace Go.Proofs.Ytgbhbohleafibaa
open Go.RowKit
set_option linter.unusedVariables false

theorem round_any {W : World} {v vl : Value} {vs ls : List Int} (f : Int) (x : Nat) (h : SlS SZ 1 W v vs) (hl : SlI W vl ls) (hx : x < 4294967296) (wf : (Lit.int .i64 f).wf = true) :
    Calls Try.prog 7 #[.int .i64 f, .int .u32 x, v, vl] W fun e w' => ∃ a1 n1 c1 c, e = .returned (.tuple #[.slice a1 n1 c1, .int .i64 c]) ∧ (c = 0 ↔ OkA f x vs ls) ∧ (OkA f x vs ls → n1 = vs.length ∧ SlS SZ 1 w' (.slice a1 n1 c1) (newL f.toNat x vs ls vs.length)) ∧ Below W.heap.size W w' := by
  by_cases ok : OkA f x vs ls
  · refine (round_good f x h hl ok hx).mono fun e w' ⟨v', he, k, hb⟩ => ?_
    obtain ⟨a1, c1, hv, _⟩ := k.form
    rw [newL_len] at hv
    subst hv
    exact ⟨_, _, _, 0, he, by simp [ok], fun _ => ⟨rfl, k⟩, hb⟩
  · refine (round_bad f x h hl ok hx wf).mono fun e w' ⟨c, he, hc, hw⟩ => ?_
    subst hw
    exact ⟨_, _, _, c, he, by simp [ok, hc], fun h => absurd h ok, Below.refl _ _⟩

set_option maxHeartbeats 8000000 in
set_option maxRecDepth 100000 in
theorem order_law (f : Int) (x : Nat) (va vb vl : Value) (as_ bs ls : List Int) (W : World) (h : SlS SZ 1 W va as_) (h2 : SlS SZ 1 W vb bs) (hl : SlS SZ 1 W vl ls) (hx : x < 4294967296) (hm : ls.length * 8 ≤ 140737488351232) (wf : (Lit.int .i64 f).wf = true) :
    Calls Try.prog 5 #[.int .i64 f, .int .u32 x, va, vb, vl] W fun e w' => e = .returned (.bool true) ∧ Below W.heap.size W w' := by
  obtain ⟨aa, ca, hva, hvam⟩ := h.form
  obtain ⟨ab, cb, hvb, hvbm⟩ := h2.form
  obtain ⟨al, cl, hvl, _⟩ := hl.form
  have HR1 := Lib.hid (round_any f x h hl.one hx wf)
  have HR2 := Lib.hid (fun w1 (hb : Below W.heap.size W w1) => round_any (W := w1) f x (h2.below hb) (hl.below hb).one hx wf)
  have HC1 := Lib.hid (fun w1 (hb : Below W.heap.size W w1) => check_any (W := w1) f x (h.below hb) (hl.below hb) hx hm wf)
  have HC2 := Lib.hid (fun w1 (hb : Below W.heap.size W w1) => check_any (W := w1) f x (h2.below hb) (hl.below hb) hx hm wf)
  have HA := Lib.hid h
  have HB := Lib.hid h2
  subst hva hvb hvl
  clear h h2 hl
  go_enter Try.func5, Try.ntmps5
  go_wp2_with fail
  refine HR1.out.mono ?_
  rintro e w1 ⟨a1, n1, c1, ka, rfl, hk1, hs1, hb1⟩
  have HK1 := Lib.hid (And.intro hk1 hs1)
  have HB1 := Lib.hid hb1
  clear hk1 hs1 hb1
  go_wp2_with fail
  refine (HR2.out _ HB1.out).mono ?_
  rintro e w2 ⟨a2, n2, c2, kb, rfl, hk2, hs2, hb2⟩
  have HK2 := Lib.hid (And.intro hk2 hs2)
  have HB2 := Lib.hid (HB1.out.trans (hb2.mono HB1.out.size))
  have HB12 := Lib.hid hb2
  clear hk2 hs2 hb2
  go_wp2_with fail
  refine (HC1.out _ HB2.out).mono ?_
  rintro e w3 ⟨⟨c', rfl, hc'⟩, hb3⟩
  have HB3 := Lib.hid (HB2.out.trans (hb3.mono HB2.out.size))
  have HB23 := Lib.hid hb3
  by_cases oka : OkA f x as_ ls
  · obtain rfl : c' = 0 := hc'.2 oka
    obtain rfl : ka = 0 := HK1.out.1.2 oka
    obtain ⟨rfl, hsa⟩ := HK1.out.2 oka
    have HSA := Lib.hid hsa
    have HOA := Lib.hid oka
    clear oka hc' hb3 hsa
    go_wp2_with fail
    refine (HC2.out _ HB3.out).mono ?_
    rintro e w4 ⟨⟨c', rfl, hc'⟩, hb4⟩
    have HB4 := Lib.hid (HB3.out.trans (hb4.mono HB3.out.size))
    have HB34 := Lib.hid hb4
    clear hb4
    by_cases okb : OkA f x bs ls
    · obtain rfl : c' = 0 := hc'.2 okb
      obtain rfl : kb = 0 := HK2.out.1.2 okb
      obtain ⟨rfl, hsb⟩ := HK2.out.2 okb
      have HSB := Lib.hid ((hsb.below HB23.out).below HB34.out)
      have HSA2 := Lib.hid (((HSA.out.below HB12.out).below HB23.out).below HB34.out)
      have HOB := Lib.hid okb
      have HA2 := Lib.hid (HA.out.below HB4.out)
      have HB2' := Lib.hid (HB.out.below HB4.out)
      clear okb hc' hsb
      by_cases hle : as_.length = bs.length
      · have hle1 : ((as_.length : Int) != (bs.length : Int)) = false := by simp; omega
        have HLE := Lib.hid hle
        have HN := Lib.hid (fun j h => new_mono (f := f.toNat) (x := x) (vs := as_) (us := bs) (ls := ls) (j := j) hle (by have := HOA.out.2.2.2.1; have := HOA.out.2.2.1; omega) h)
        have hna := newL_len f.toNat x as_ ls as_.length
        have hnb := newL_len f.toNat x bs ls bs.length
        have HGA := Lib.hid (fun i h => newL_get (f := f.toNat) (x := x) (vs := as_) (ls := ls) (k := as_.length) (i := i) h)
        have HGB := Lib.hid (fun i h => newL_get (f := f.toNat) (x := x) (vs := bs) (ls := ls) (k := bs.length) (i := i) h)
        have HNA := Lib.hid (And.intro hna hnb)
        clear hle hna hnb HR1 HR2 HC1 HC2
        generalize newL f.toNat x as_ ls as_.length = la at *
        generalize newL f.toNat x bs ls bs.length = lb at *
        go_wp2_with fail
        go_loopw [15] (fun i wr => ∃ (j m : Nat), j ≤ as_.length ∧ i = .int .i64 j ∧ wr = w4.drewN m ∧ ∀ (i : Nat) (a b : Int), i < j → as_[i]? = some a → bs[i]? = some b → a ≤ b) (fun i _ => as_.length - (intOf i).toNat)
        case atStart => exact ⟨0, 0, Nat.zero_le _, rfl, rfl, fun i a b h => by omega⟩
        case round =>
          obtain ⟨j, m, hj, rfl, rfl, hno⟩ := hrel
          by_cases hlt : j < as_.length
          · obtain ⟨p, hp⟩ := get_of_lt hlt
            obtain ⟨q, hq⟩ := get_of_lt (show j < bs.length by have := HLE.out; omega)
            obtain ⟨d1, o1, rfl, _, y1⟩ := HA2.out.one.get1 hp
            obtain ⟨d2, o2, rfl, _, y2⟩ := HB2'.out.one.get1 hq
            have i0 : (0 : Int) ≤ (j : Int) := by omega
            have i1 : (j : Int) < (as_.length : Int) := by omega
            have i2 : (j : Int) < (bs.length : Int) := by have := HLE.out; omega
            by_cases hc : q < p
            · have hd : decide (q < p) = true := by simpa using hc
              clear hp hq hno
              go_wp2_with fail
              go_quiet (fail)
              go_wp2_with fail
              go_ret
              exact ⟨rfl, below_drewN (below_drewN HB4.out _) _⟩
            · have hd : decide (q < p) = false := by simpa using hc
              have HNO := Lib.hid (show ∀ (i : Nat) (a b : Int), i < j + 1 → as_[i]? = some a → bs[i]? = some b → a ≤ b from fun i a b hi ha hb => by
                rcases Nat.lt_or_eq_of_le (show i ≤ j by omega) with h | rfl
                · exact hno i a b h ha hb
                · rw [hp] at ha; rw [hq] at hb; cases ha; cases hb; omega)
              clear hp hq hno
              go_wp2_with fail
              go_quiet (fail)
              go_wp2_with fail
              go_roundw
              case rel => exact ⟨j + 1, _, by omega, by go_num, rfl, HNO.out⟩
              case measure => simp [intOf]; omega
          · obtain rfl : j = as_.length := by omega
            have HNN := Lib.hid (fun j => HN.out j (fun i a b ha hb => hno i a b (List.getElem?_eq_some_iff.1 ha).1 ha hb))
            clear hno
            go_wp2_with fail
            obtain ⟨wo, hwo⟩ : ∃ wo, wo = w4.drewN m := ⟨_, rfl⟩
            rw [← hwo]
            have HSA3 := Lib.hid (show SlS SZ 1 wo (.slice a1 as_.length c1) la from by rw [hwo]; exact HSA2.out.below (below_drewN (Below.refl _ _) _))
            have HSB3 := Lib.hid (show SlS SZ 1 wo (.slice a2 bs.length c2) lb from by rw [hwo]; exact HSB.out.below (below_drewN (Below.refl _ _) _))
            have HBO := Lib.hid (show Below W.heap.size W wo from by rw [hwo]; exact below_drewN HB4.out _)
            clear hwo
            go_loopw [16] (fun i wr => ∃ (j m : Nat), j ≤ as_.length ∧ i = .int .i64 j ∧ wr = wo.drewN m) (fun i _ => as_.length - (intOf i).toNat)
            case atStart => exact ⟨0, 0, Nat.zero_le _, rfl, rfl⟩
            case round =>
              obtain ⟨j, m, hj, rfl, rfl⟩ := hrel
              by_cases hlt : j < as_.length
              · obtain ⟨d1, o1, rfl, _, y1⟩ := HSA3.out.one.get1 (HGA.out j hlt)
                obtain ⟨d2, o2, rfl, _, y2⟩ := HSB3.out.one.get1 (HGB.out j (by have := HLE.out; omega))
                have i0 : (0 : Int) ≤ (j : Int) := by omega
                have i1 : (j : Int) < (as_.length : Int) := by omega
                have i2 : (j : Int) < (bs.length : Int) := by have := HLE.out; omega
                have hle2 := HNN.out j
                generalize newF f.toNat x as_ ls j = p at *
                generalize newF f.toNat x bs ls j = q at *
                have hd : decide (q < p) = false := decide_eq_false (by omega)
                clear hle2
                go_wp2_with fail
                go_quiet (fail)
                go_wp2_with fail
                go_roundw
                case rel => exact ⟨j + 1, _, by omega, by go_num, rfl⟩
                case measure => simp [intOf]; omega
              · go_wp2_with fail
                go_ret
                exact ⟨rfl, below_drewN HBO.out _⟩
      · have hle1 : ((as_.length : Int) != (bs.length : Int)) = true := by simp; omega
        clear hle
        go_wp2_with fail
        go_ret
        exact ⟨rfl, HB4.out⟩
    · have hc2 : (c' != 0) = true := by
        have : c' ≠ 0 := fun e => okb (hc'.1 e)
        simpa using this
      have hc3 : (kb != 0) = true := by
        have : kb ≠ 0 := fun e => okb (HK2.out.1.1 e)
        simpa using this
      clear hc' okb
      go_wp2_with fail
      go_ret
      exact ⟨rfl, HB4.out⟩
  · have hc2 : (c' != 0) = true := by
      have : c' ≠ 0 := fun e => oka (hc'.1 e)
      simpa using this
    have hc3 : (ka != 0) = true := by
      have : ka ≠ 0 := fun e => oka (HK1.out.1.1 e)
      simpa using this
    clear hc' oka hb3
    go_wp2_with fail
    go_ret
    exact ⟨rfl, HB3.out⟩

theorem order_int (f x : Int) (a2 a3 a4 : Option Addr) (n2 k2 n3 k3 n4 k4 : Nat) (vs us ls : List Int) (W : World) (h : SlI W (.slice a2 n2 k2) vs) (h2 : SlI W (.slice a3 n3 k3) us) (h' : SlI W (.slice a4 n4 k4) ls) (c2 : n2 ≤ k2) (c3 : n3 ≤ k3) (c4 : n4 ≤ k4) (hx : 0 ≤ x ∧ x ≤ 4294967295) (hm : n4 * 8 ≤ 140737488351232) (wf : (Lit.int .i64 f).wf = true) :
    Calls Try.prog 5 #[.int .i64 f, .int .u32 x, .slice a2 n2 k2, .slice a3 n3 k3, .slice a4 n4 k4] W fun e w' => e = .returned (.bool true) ∧ Below W.heap.size W w' := by
  obtain ⟨x, rfl⟩ := Int.eq_ofNat_of_zero_le hx.1
  exact order_law f x _ _ _ vs us ls W (h.sls c2) (h2.sls c3) (h'.sls c4) (by omega) (by rw [← h'.len_eq]; exact hm) wf
end Go.Proofs.Ytgbhbohleafibaa
