/- The walk of ChainGrows. -/
import Derived.Test.YthcaedmkhghogaaB4
namespace Go.Proofs.Ythcaedmkhghogaa
open Go.RowKit
set_option linter.unusedVariables false

def eqB (xs ys : List Bool) : Bool := decide (xs = ys)
theorem eqB_of {xs ys : List Bool} (h : xs = ys) : eqB xs ys = true := by unfold eqB; simpa using h
theorem eqB_no {xs ys : List Bool} (h : xs ≠ ys) : eqB xs ys = false := by unfold eqB; simp [h]
set_option maxHeartbeats 1000000 in
theorem bools_any {w : World} {va vb : Value} {xs ys : List Bool} (ha : Sl Value.bool w va xs) (hb : Sl Value.bool w vb ys) : Calls Try.prog 15 #[va, vb] w fun e w' => e = .returned (.bool (eqB xs ys)) ∧ ∃ m, w' = w.drewN m := by
  obtain ⟨a, c1, rfl, m1⟩ := ha.form
  obtain ⟨b, c2, rfl, m2⟩ := hb.form
  have HA := Lib.hid ha
  have HB := Lib.hid hb
  clear ha hb
  by_cases hl : xs.length = ys.length
  · have hl' : ((xs.length : Int) != (ys.length : Int)) = false := by simp; omega
    have HL := Lib.hid hl
    clear hl
    go_enter Try.func15, Try.ntmps15
    go_wp2_with fail
    go_loopw [5] (fun i wr => ∃ (j m : Nat), j ≤ xs.length ∧ i = .int .i64 j ∧ wr = w.drewN m ∧ xs.take j = ys.take j) (fun i _ => xs.length - (intOf i).toNat)
    case atStart => exact ⟨0, 0, Nat.zero_le _, rfl, rfl, rfl⟩
    case round =>
      obtain ⟨j, m, hj, rfl, rfl, htk⟩ := hrel
      by_cases hlt : j < xs.length
      · obtain ⟨x, hx⟩ := get_of_lt hlt
        obtain ⟨y, hy⟩ := get_of_lt (show j < ys.length by have := HL.out; omega)
        obtain ⟨b1, o1, rfl, _, h1⟩ := HA.out.get' hx
        obtain ⟨b2, o2, rfl, _, h2⟩ := HB.out.get' hy
        have i0 : (0 : Int) ≤ (j : Int) := by omega
        have i1 : (j : Int) < (xs.length : Int) := by omega
        have i2 : (j : Int) < (ys.length : Int) := by have := HL.out; omega
        by_cases e : x = y
        · subst e
          have HT := Lib.hid (show xs.take (j + 1) = ys.take (j + 1) by rw [take_of hx, take_of hy, htk])
          clear hx hy htk
          go_wp2_with fail
          go_quiet (fail)
          go_wp2_with fail
          go_roundw
          case rel => exact ⟨j + 1, _, by omega, by go_num, rfl, HT.out⟩
          case measure => simp [intOf]; omega
        · have hne : (x != y) = true := by cases x <;> cases y <;> first | rfl | exact absurd rfl e
          have hne2 : (x == y) = false := by cases x <;> cases y <;> first | rfl | exact absurd rfl e
          have hne3 : (!(x == y)) = true := by rw [hne2]; rfl
          have HE := Lib.hid (show eqB xs ys = false from eqB_no fun h => by rw [h, hy] at hx; cases hx; exact e rfl)
          clear hx hy e htk
          go_wp2_with fail
          go_quiet (fail)
          go_wp2_with fail
          go_ret
          exact ⟨ret_bool HE.out.symm, _, World.drewN_drewN _ _ _⟩
      · obtain rfl : j = xs.length := by omega
        have HE := Lib.hid (show eqB xs ys = true from eqB_of (by
          rw [List.take_length, HL.out, List.take_length] at htk; exact htk))
        clear htk
        go_wp2_with fail
        go_ret
        exact ⟨ret_bool HE.out.symm, m, rfl⟩
  · have hl' : ((xs.length : Int) != (ys.length : Int)) = true := by simp; omega
    have HE := Lib.hid (show eqB xs ys = false from eqB_no fun h => hl (by rw [h]))
    clear hl
    go_enter Try.func15, Try.ntmps15
    go_wp2_with fail
    go_ret
    exact ⟨ret_bool HE.out.symm, 0, rfl⟩


theorem take_get {α : Type} {l : List α} {m i : Nat} (h : i < m) : (l.take m)[i]? = l[i]? := by rw [List.getElem?_take, if_pos h]
theorem OkC.less {l : List (Int × Int)} (h : OkC l) {m : Nat} (h0 : 0 < m) (hm : m ≤ l.length) : OkC (l.take m) := by
  have h1 := h.few
  refine ⟨by rw [List.length_take]; omega, by rw [List.length_take]; omega, by rw [take_get h0]; exact h.first, fun i x hi hx => ?_⟩
  have hl := (List.getElem?_eq_some_iff.1 hx).1
  rw [List.length_take] at hl
  rw [take_get (by omega)] at hx
  obtain ⟨p, y, q1, q2, q3, q4⟩ := h.rest i x hi hx
  exact ⟨p, y, q1, q2, by rw [take_get (by omega)]; exact q3, q4⟩
theorem pr_less {l : List (Int × Int)} {m b : Nat} (hb : b < m) : pr (l.take m) b = pr l b := by unfold pr; rw [take_get hb]
theorem OkC.ups_less {l : List (Int × Int)} (h : OkC l) {m : Nat} (hm : m ≤ l.length) : ∀ (n b : Nat), b < m → ups (l.take m) n b = ups l n b
  | 0, b, hb => rfl
  | n + 1, b, hb => by
    unfold ups
    split
    · rfl
    · have hp := h.prlt (b := b) (by omega) (by omega)
      rw [pr_less hb, h.ups_less hm n (pr l b) (by omega)]
theorem OkC.path_less {l : List (Int × Int)} (h : OkC l) {m b : Nat} (hm : m ≤ l.length) (hb : b < m) : pathL (l.take m) b = pathL l b := by
  unfold pathL; rw [h.ups_less hm b b hb]
theorem OkC.anc_less {l : List (Int × Int)} (h : OkC l) {m : Nat} (h0 : 0 < m) (hm : m ≤ l.length) {c b : Nat} (hb : b < m) : Anc (l.take m) c b ↔ Anc l c b := by
  rw [← h.ups_mem b b (Nat.le_refl _) (by omega), ← (h.less h0 hm).ups_mem b b (Nat.le_refl _) (by rw [List.length_take]; omega), h.ups_less hm b b hb]
theorem OkC.meet_less {l : List (Int × Int)} (h : OkC l) {m a b x y : Nat} (h0 : 0 < m) (hm : m ≤ l.length) (ha : a < m) (hb : b < m) (h1 : IsMeet l a b x) (h2 : IsMeet (l.take m) a b y) : x = y :=
  h1.uniq ⟨(h.anc_less h0 hm ha).1 h2.left, (h.anc_less h0 hm hb).1 h2.right, fun c q1 q2 => h2.most c ((h.anc_less h0 hm ha).2 q1) ((h.anc_less h0 hm hb).2 q2)⟩
theorem OkC.dec_less {l : List (Int × Int)} (h : OkC l) {cs : List Bool} {m c b : Nat} (h0 : 0 < m) (hm : m ≤ l.length) (hc : c < m) : DecBy (l.take m) (cs.take m) c b ↔ DecBy l cs c b := by
  unfold DecBy On
  by_cases c0 : 0 < c
  · have hp := h.prlt c0 (by omega)
    rw [pr_less hc, take_get hc, take_get hc, take_get (by omega), take_get (by omega), h.anc_less h0 hm (by omega)]
  · constructor
    · rintro ⟨q, _⟩; exact absurd q c0
    · rintro ⟨q, _⟩; exact absurd q c0
theorem OkC.dec_grow {l : List (Int × Int)} (h : OkC l) {cs ds es : List Bool} {m : Nat} (h0 : 0 < m) (hm : m + 1 = l.length) (h1 : IsDec l cs l.length ds) (h2 : IsDec (l.take m) (cs.take m) (l.take m).length es) {b : Nat} (hb : On es b) : On ds b := by
  obtain ⟨c, q1, q2⟩ := (h2.2 b).1 hb
  rw [List.length_take] at q1
  exact (h1.2 b).2 ⟨c, by omega, (h.dec_less h0 (by omega) (by omega)).1 q2⟩
theorem OkC.dec_same {l : List (Int × Int)} (h : OkC l) {cs ds es : List Bool} {m : Nat} (h0 : 0 < m) (hm : m + 1 = l.length) (h1 : IsDec l cs l.length ds) (h2 : IsDec (l.take m) (cs.take m) (l.take m).length es) (hc : ¬ On cs m) : es = ds.take m := by
  have hl1 := h1.1
  have hl2 := h2.1
  rw [List.length_take] at hl2
  refine List.ext_getElem? fun b => ?_
  by_cases hb : b < m
  · rw [take_get hb]
    obtain ⟨x, hx⟩ := get_of_lt (show b < es.length by omega)
    obtain ⟨y, hy⟩ := get_of_lt (show b < ds.length by omega)
    rw [hx, hy]
    have e : On es b ↔ On ds b := by
      rw [h1.2 b, h2.2 b]
      constructor
      · rintro ⟨c, q1, q2⟩
        rw [List.length_take] at q1
        exact ⟨c, by omega, (h.dec_less h0 (by omega) (by omega)).1 q2⟩
      · rintro ⟨c, q1, q2⟩
        have : c ≠ m := fun e => hc (e ▸ q2.2.1)
        exact ⟨c, by rw [List.length_take]; omega, (h.dec_less h0 (by omega) (by omega)).2 q2⟩
    unfold On at e
    rw [hx, hy] at e
    cases x <;> cases y <;> simp at e ⊢
  · rw [List.getElem?_eq_none (by omega), List.getElem?_eq_none (by rw [List.length_take]; omega)]
theorem SlS.takeS {α : Type} {f : α → List Value} {sz : Nat} {w : World} {a : Option Addr} {n cap : Nat} {xs : List α} (h : SlS f sz w (.slice a n cap) xs) {k : Nat} (hk : k ≤ xs.length) : SlS f sz w (.slice a k cap) (xs.take k) := h.take hk

set_option maxHeartbeats 8000000 in
set_option maxRecDepth 100000 in
theorem grows_any {W : World} {v vc : Value} {l : List (Int × Int)} {cs : List Bool} (a b : Int) (h : SlS FK 2 W v l) (hc : SlS SB 1 W vc cs) (hwf : ∀ t ∈ l, (Lit.int .i64 t.2).wf = true) :
    Calls Try.prog 7 #[v, .int .i64 a, .int .i64 b, vc] W fun e w' => e = .returned (.bool true) ∧ Below W.heap.size W w' := by
  have HBL := Lib.hid (fun w1 (hb : Below W.heap.size W w1) => blocks_any (h.below hb))
  have HPA := Lib.hid (fun b (w1 : World) (hb : Below W.heap.size W w1) => path_any b (h.below hb))
  obtain ⟨al, cl, rfl, _⟩ := h.form
  obtain ⟨ac, cc, rfl, _⟩ := hc.form
  have HI1 := Lib.hid (fun n (w1 : World) => inside_any (w := w1.alloc (.cells #[.int .i64 a, .int .i64 b] 3)) n (Sl.lit (w := w1) (e := 3) [a, b] #[.int .i64 a, .int .i64 b] rfl (by simp)))
  have HI2 := Lib.hid (fun (w1 : World) => inside_any (w := w1.alloc (.cells #[.int .i64 a] 3)) (l.length : Int) (Sl.lit (w := w1) (e := 3) [a] #[.int .i64 a] rfl (by simp)))
  have HFIN := Lib.hid (fun (w9 : World) o (hb : Below W.heap.size W w9) => hb.trans ((below_alloc w9 o).mono hb.size))
  have HS := Lib.hid h
  have HC := Lib.hid hc
  have HWF := Lib.hid hwf
  have hll : (l.length : Int) ≤ 140737488355328 := by omega
  have hll0 : (0 : Int) ≤ (l.length : Int) := by omega
  clear h hc hwf
  by_cases okc : OkC l
  rotate_left
  · have HN := Lib.hid okc
    clear okc
    go_enter Try.func7, Try.ntmps7
    go_wp2_with fail
    refine (HBL.out _ (Below.refl _ _)).mono ?_
    rintro e w1 ⟨⟨bo, rfl, hbo⟩, hb⟩
    obtain rfl : bo = false := by cases bo with | false => rfl | true => exact absurd (hbo.1 rfl) HN.out
    have HB := Lib.hid hb
    clear hb hbo
    go_wp2_with fail
    refine (HPA.out _ _ HB.out).mono ?_
    rintro e w2 ⟨⟨pv, c, rfl, hc, _, _⟩, hb⟩
    have HB2 := Lib.hid (HB.out.trans (hb.mono HB.out.size))
    have hc0 : ¬ c = 0 := fun h => HN.out (hc.1 h).1
    have hc1 : (c != 0) = true := by simpa using hc0
    clear hb hc hc0
    go_wp2_with fail
    refine (HBL.out _ HB2.out).mono ?_
    rintro e w3 ⟨⟨bo, rfl, hbo⟩, hb⟩
    obtain rfl : bo = false := by cases bo with | false => rfl | true => exact absurd (hbo.1 rfl) HN.out
    have HB3 := Lib.hid (HB2.out.trans (hb.mono HB2.out.size))
    clear hb hbo
    go_wp2_with fail
    refine (HBL.out _ HB3.out).mono ?_
    rintro e w4 ⟨⟨bo, rfl, hbo⟩, hb⟩
    obtain rfl : bo = false := by cases bo with | false => rfl | true => exact absurd (hbo.1 rfl) HN.out
    have HB4 := Lib.hid (HB3.out.trans (hb.mono HB3.out.size))
    clear hb hbo
    go_wp2_with fail
    go_ret
    exact ⟨rfl, HB4.out⟩
  have HOK := Lib.hid okc
  have o1 := okc.one
  have o2 := okc.few
  by_cases ok : 2 ≤ l.length ∧ cs.length = l.length ∧ (0 ≤ a ∧ a < (l.length : Int) - 1) ∧ (0 ≤ b ∧ b < (l.length : Int) - 1)
  rotate_left
  · have HN := Lib.hid ok
    clear ok okc
    go_enter Try.func7, Try.ntmps7
    go_wp2_with fail
    refine (HBL.out _ (Below.refl _ _)).mono ?_
    rintro e w1 ⟨⟨bo, rfl, hbo⟩, hb⟩
    obtain rfl : bo = true := hbo.2 HOK.out
    have HB := Lib.hid hb
    clear hb hbo
    have key : l.length < 2 ∨ (2 ≤ l.length ∧ cs.length ≠ l.length) ∨ (2 ≤ l.length ∧ cs.length = l.length ∧ insI ((l.length : Int) - 1) [a, b] = false) := by
      by_cases k1 : l.length < 2
      · exact .inl k1
      · by_cases k2 : cs.length = l.length
        · refine .inr (.inr ⟨by omega, k2, ?_⟩)
          cases hh : insI ((l.length : Int) - 1) [a, b]
          · rfl
          · exact absurd ⟨by omega, k2, insI_iff.1 hh a (by simp), insI_iff.1 hh b (by simp)⟩ HN.out
        · exact .inr (.inl ⟨by omega, k2⟩)
    rcases key with k1 | ⟨k1, k2⟩ | ⟨k1, k2, k3⟩
    · have k4 : (l.length : Int) < 2 := by omega
      clear k1
      go_wp2_with fail
      refine (HPA.out _ _ HB.out).mono ?_
      rintro e w2 ⟨⟨pv, c, rfl, hc, _, _⟩, hb⟩
      have HB2 := Lib.hid (HB.out.trans (hb.mono HB.out.size))
      have hcc : (c == 0) = insI (l.length : Int) [a] := by
        rw [Bool.eq_iff_iff, insI_iff, beq_iff_eq, hc]
        constructor
        · rintro ⟨_, h1, h2⟩ x hx; simp at hx; subst hx; exact ⟨h1, h2⟩
        · intro h; exact ⟨HOK.out, h a (by simp)⟩
      clear hb hc
      go_wp2_with fail
      refine (HBL.out _ HB2.out).mono ?_
      rintro e w3 ⟨⟨bo, rfl, hbo⟩, hb⟩
      obtain rfl : bo = true := hbo.2 HOK.out
      have HB3 := Lib.hid (HB2.out.trans (hb.mono HB2.out.size))
      clear hb hbo
      go_wp2_with fail
      refine (HI2.out _).mono ?_
      rintro e w4 ⟨rfl, rfl⟩
      have HB4 := Lib.hid (HFIN.out _ (.cells #[.int .i64 a] 3) HB3.out)
      rw [← hcc]
      have hdd : ((c == 0) == (c == 0)) = true := by simp
      clear hcc
      go_wp2_with fail
      go_ret
      exact ⟨rfl, HB4.out⟩
    · have k4 : (2 : Int) ≤ (l.length : Int) := by omega
      have k5 : ((cs.length : Int) != (l.length : Int)) = true := by simp; omega
      have k6 : ((cs.length : Int) == (l.length : Int)) = false := by simp; omega
      clear k1 k2
      go_wp2_with fail
      refine (HPA.out _ _ HB.out).mono ?_
      rintro e w2 ⟨⟨pv, c, rfl, hc, _, _⟩, hb⟩
      have HB2 := Lib.hid (HB.out.trans (hb.mono HB.out.size))
      have hcc : (c == 0) = insI (l.length : Int) [a] := by
        rw [Bool.eq_iff_iff, insI_iff, beq_iff_eq, hc]
        constructor
        · rintro ⟨_, h1, h2⟩ x hx; simp at hx; subst hx; exact ⟨h1, h2⟩
        · intro h; exact ⟨HOK.out, h a (by simp)⟩
      clear hb hc
      go_wp2_with fail
      refine (HBL.out _ HB2.out).mono ?_
      rintro e w3 ⟨⟨bo, rfl, hbo⟩, hb⟩
      obtain rfl : bo = true := hbo.2 HOK.out
      have HB3 := Lib.hid (HB2.out.trans (hb.mono HB2.out.size))
      clear hb hbo
      go_wp2_with fail
      refine (HI2.out _).mono ?_
      rintro e w4 ⟨rfl, rfl⟩
      have HB4 := Lib.hid (HFIN.out _ (.cells #[.int .i64 a] 3) HB3.out)
      rw [← hcc]
      have hdd : ((c == 0) == (c == 0)) = true := by simp
      clear hcc
      go_wp2_with fail
      go_ret
      exact ⟨rfl, HB4.out⟩
    · have k4 : (2 : Int) ≤ (l.length : Int) := by omega
      have k5 : ((cs.length : Int) != (l.length : Int)) = false := by simp; omega
      have k6 : ((cs.length : Int) == (l.length : Int)) = true := by simp; omega
      clear k1 k2
      go_wp2_with fail
      refine (HI1.out _ _).mono ?_
      rintro e w1' ⟨rfl, rfl⟩
      have HB0 := Lib.hid (HFIN.out _ (.cells #[.int .i64 a, .int .i64 b] 3) HB.out)
      rw [k3]
      obtain ⟨wq, hwq⟩ : ∃ wq, wq = w1.alloc (.cells #[.int .i64 a, .int .i64 b] 3) := ⟨_, rfl⟩
      rw [← hwq] at HB0 ⊢
      clear hwq HB k3
      have HB := Lib.hid HB0.out
      go_wp2_with fail
      refine (HPA.out _ _ HB.out).mono ?_
      rintro e w2 ⟨⟨pv, c, rfl, hc, _, _⟩, hb⟩
      have HB2 := Lib.hid (HB.out.trans (hb.mono HB.out.size))
      have hcc : (c == 0) = insI (l.length : Int) [a] := by
        rw [Bool.eq_iff_iff, insI_iff, beq_iff_eq, hc]
        constructor
        · rintro ⟨_, h1, h2⟩ x hx; simp at hx; subst hx; exact ⟨h1, h2⟩
        · intro h; exact ⟨HOK.out, h a (by simp)⟩
      clear hb hc
      go_wp2_with fail
      refine (HBL.out _ HB2.out).mono ?_
      rintro e w3 ⟨⟨bo, rfl, hbo⟩, hb⟩
      obtain rfl : bo = true := hbo.2 HOK.out
      have HB3 := Lib.hid (HB2.out.trans (hb.mono HB2.out.size))
      clear hb hbo
      go_wp2_with fail
      refine (HI2.out _).mono ?_
      rintro e w4 ⟨rfl, rfl⟩
      have HB4 := Lib.hid (HFIN.out _ (.cells #[.int .i64 a] 3) HB3.out)
      rw [← hcc]
      have hdd : ((c == 0) == (c == 0)) = true := by simp
      clear hcc
      go_wp2_with fail
      go_ret
      exact ⟨rfl, HB4.out⟩
  · obtain ⟨k1, k2, ⟨a0, a1⟩, b0, b1⟩ := id ok
    obtain ⟨a, rfl⟩ := Int.eq_ofNat_of_zero_le a0
    obtain ⟨b, rfl⟩ := Int.eq_ofNat_of_zero_le b0
    obtain ⟨m, hm⟩ : ∃ m, m = l.length - 1 := ⟨_, rfl⟩
    have hm0 : 0 < m := by omega
    have hm1 : m + 1 = l.length := by omega
    have hM : (l.length : Int) - 1 = (m : Int) := by omega
    have ham : a < m := by omega
    have hbm : b < m := by omega
    have okl := okc.less hm0 (by omega)
    have hlt : (l.take m).length = m := by rw [List.length_take]; omega
    have hct : (cs.take m).length = m := by rw [List.length_take]; omega
    have HCS : SlS SB 1 W (.slice ac l.length cc) cs := by have := HC.out; rwa [k2] at this
    have hml : m ≤ cl := by have := HS.out.cap.2; omega
    have hmc : m ≤ cc := by have := HCS.cap.2; omega
    have hLS : SlS FK 2 W (.slice al m cl) (l.take m) := HS.out.takeS (by omega)
    have hCS : SlS SB 1 W (.slice ac m cc) (cs.take m) := HCS.takeS (by omega)
    have HP2 := Lib.hid (fun b (w1 : World) (hb : Below W.heap.size W w1) => path_any b (hLS.below hb))
    have HM1 := Lib.hid (fun a b (w1 : World) (hb : Below W.heap.size W w1) => meet_any a b (HS.out.below hb))
    have HM2 := Lib.hid (fun a b (w1 : World) (hb : Below W.heap.size W w1) => meet_any a b (hLS.below hb))
    have HD1 := Lib.hid (fun (w1 : World) (hb : Below W.heap.size W w1) => dec_any (HS.out.below hb) (HCS.below hb) HWF.out)
    have HD2 := Lib.hid (fun (w1 : World) (hb : Below W.heap.size W w1) => dec_any (hLS.below hb) (hCS.below hb) (fun t ht => HWF.out t (List.mem_of_mem_take ht)))
    have K1 := Lib.hid (show OkP l a from ⟨okc, by omega, by omega⟩)
    have K2 := Lib.hid (show OkP (l.take m) a from ⟨okl, by omega, by omega⟩)
    have K3 := Lib.hid (show OkM l a b from ⟨okc, by omega, by omega, by omega, by omega⟩)
    have K4 := Lib.hid (show OkM (l.take m) a b from ⟨okl, by omega, by omega, by omega, by omega⟩)
    have K5 := Lib.hid (show OkD l cs from ⟨okc, k2⟩)
    have K6 := Lib.hid (show OkD (l.take m) (cs.take m) from ⟨okl, by rw [hlt, hct]⟩)
    have HPE := Lib.hid (show pathL (l.take m) a = pathL l a from okc.path_less (by omega) ham)
    have HME := Lib.hid (fun x y h1 h2 => okc.meet_less (x := x) (y := y) hm0 (by omega) ham hbm h1 h2)
    have HGR := Lib.hid (fun ds es (b : Nat) h1 h2 => okc.dec_grow (cs := cs) (ds := ds) (es := es) (b := b) hm0 hm1 h1 h2)
    have HSM := Lib.hid (fun ds es h1 h2 => okc.dec_same (cs := cs) (ds := ds) (es := es) hm0 hm1 h1 h2)
    have HCB := Lib.hid (show SlS SB 1 W (.slice ac l.length cc) cs from HCS)
    have HLT := Lib.hid hlt
    have HPP := Lib.hid (pathL_pos l a)
    obtain ⟨cb, hcb⟩ := get_of_lt (show m < cs.length by omega)
    have HCM := Lib.hid hcb
    have HI0 := Lib.hid (show insI ((l.length : Int) - 1) [(a : Int), (b : Int)] = true from insI_iff.2 (by intro x hx; simp at hx; omega))
    rw [hM] at HI0
    have t1 : (0 : Int) ≤ (m : Int) := by omega
    have t2 : (m : Int) < (l.length : Int) := by omega
    have t3 : (m : Int) ≤ (cl : Int) := by omega
    have t4 : (m : Int) ≤ (cc : Int) := by omega
    have t5 : (2 : Int) ≤ (l.length : Int) := by omega
    have HMI := Lib.hid (show m + 1 = l.length ∧ 0 < m ∧ l.length ≤ 40 by omega)
    have t6 : (m : Int) ≤ 140737488355328 := by omega
    rw [k2]
    clear ok k1 k2 a0 b0 a1 b1 hm hm0 hm1 ham hbm okl hlt hct HCS hml hmc hLS hCS okc o1 o2 hcb HC
    go_enter Try.func7, Try.ntmps7
    go_wp2_with fail
    refine (HBL.out _ (Below.refl _ _)).mono ?_
    rintro e w1 ⟨⟨bo, rfl, hbo⟩, hb⟩
    obtain rfl : bo = true := hbo.2 HOK.out
    have HB := Lib.hid hb
    clear hb hbo
    go_wp2_with fail
    refine (HI1.out _ _).mono ?_
    rintro e w1' ⟨rfl, rfl⟩
    have HB1 := Lib.hid (HFIN.out _ (.cells #[.int .i64 a, .int .i64 b] 3) HB.out)
    try rw [hM]
    rw [HI0.out]
    obtain ⟨wo, hwo⟩ : ∃ wo, wo = w1.alloc (.cells #[.int .i64 a, .int .i64 b] 3) := ⟨_, rfl⟩
    rw [← hwo] at HB1 ⊢
    clear hwo HB
    go_wp2_with fail
    refine (HPA.out _ _ HB1.out).mono ?_
    rintro e w2 ⟨⟨pv, c, rfl, hc, _, hsp⟩, hb⟩
    obtain rfl : c = 0 := hc.2 K1.out
    have HSP := Lib.hid (show SlS SZ 1 w2 pv (pathL l a) from hsp rfl)
    have HB2 := Lib.hid (HB1.out.trans (hb.mono HB1.out.size))
    obtain ⟨ap, cp, rfl, _⟩ := HSP.out.form
    clear hb hc hsp
    go_wp2_with fail
    refine (HP2.out _ _ HB2.out).mono ?_
    rintro e w3 ⟨⟨qv, c, rfl, hc, _, hsp⟩, hb⟩
    obtain rfl : c = 0 := hc.2 K2.out
    have HSQ := Lib.hid (show SlS SZ 1 w3 qv (pathL l a) from by have := hsp rfl; rwa [show pathL (l.take m) (a : Int).toNat = pathL l a from HPE.out] at this)
    have HSP3 := Lib.hid (HSP.out.below hb)
    have HB3 := Lib.hid (HB2.out.trans (hb.mono HB2.out.size))
    obtain ⟨aq, cq, rfl, _⟩ := HSQ.out.form
    clear hb hc hsp HSP
    go_wp2_with fail
    refine (HM1.out _ _ _ HB3.out).mono ?_
    rintro e w4 ⟨⟨x, c, rfl, hc, hmm⟩, hb⟩
    obtain rfl : c = 0 := hc.2 K3.out
    obtain ⟨x, rfl, hx1⟩ := hmm rfl
    have HX1 := Lib.hid (show IsMeet l a b x from hx1)
    have HSP4 := Lib.hid (HSP3.out.below hb)
    have HSQ4 := Lib.hid (HSQ.out.below hb)
    have HB4 := Lib.hid (HB3.out.trans (hb.mono HB3.out.size))
    clear hb hc hmm hx1 HSP3 HSQ
    go_wp2_with fail
    refine (HM2.out _ _ _ HB4.out).mono ?_
    rintro e w5 ⟨⟨y, c, rfl, hc, hmm⟩, hb⟩
    obtain rfl : c = 0 := hc.2 K4.out
    obtain ⟨y, rfl, hx1⟩ := hmm rfl
    obtain rfl : x = y := HME.out x y HX1.out hx1
    have HSP5 := Lib.hid (HSP4.out.below hb)
    have HSQ5 := Lib.hid (HSQ4.out.below hb)
    have HB5 := Lib.hid (HB4.out.trans (hb.mono HB4.out.size))
    clear hb hc hmm hx1 HSP4 HSQ4
    go_wp2_with fail
    refine (HD1.out _ HB5.out).mono ?_
    rintro e w6 ⟨⟨dv, c, rfl, hc, _, hms⟩, hb⟩
    obtain rfl : c = 0 := hc.2 K5.out
    obtain ⟨ds, hs4, hd1⟩ := hms rfl
    have HSP6 := Lib.hid (HSP5.out.below hb)
    have HSQ6 := Lib.hid (HSQ5.out.below hb)
    have HB6 := Lib.hid (HB5.out.trans (hb.mono HB5.out.size))
    have HDS := Lib.hid hs4
    have HI6 := Lib.hid hd1
    obtain ⟨ad, cd, rfl, _⟩ := hs4.form
    have hml := hd1.1
    rw [hml] at HDS ⊢
    clear hb hc hms hs4 hd1 hml HSP5 HSQ5
    go_wp2_with fail
    refine (HD2.out _ HB6.out).mono ?_
    rintro e w7 ⟨⟨ev, c, rfl, hc, _, hms⟩, hb⟩
    obtain rfl : c = 0 := hc.2 K6.out
    obtain ⟨es, hs4, hd1⟩ := hms rfl
    have HSP7 := Lib.hid (HSP6.out.below hb)
    have HSQ7 := Lib.hid (HSQ6.out.below hb)
    have HDS7 := Lib.hid (HDS.out.below hb)
    have HB7 := Lib.hid (HB6.out.trans (hb.mono HB6.out.size))
    have HES := Lib.hid hs4
    have HI7 := Lib.hid hd1
    obtain ⟨ae, ce, rfl, _⟩ := hs4.form
    have hml := hd1.1
    rw [HLT.out] at hml
    have HEL := Lib.hid hml
    rw [hml] at HES ⊢
    have HDC := Lib.hid HDS7.out.cap.2
    clear hb hc hms hs4 hd1 hml HSP6 HSQ6 HDS
    have HEQ := Lib.hid (ints_any HSP7.out.one HSQ7.out.one)
    rw [eqI_of rfl] at HEQ
    have p0 : (0 : Int) < ((pathL l a).length : Int) := by have := HPP.out; omega
    have p1 : (((pathL l a).length : Int) == 0) = false := by rw [cast_beq0]; exact beq_eq_false_iff_ne.2 (by omega)
    go_wp2_with fail
    refine HEQ.out.mono ?_
    rintro e w8 ⟨rfl, nq, rfl⟩
    have HB8 := Lib.hid (below_drewN HB7.out nq)
    have HDS8 := Lib.hid (HDS7.out.below (below_drewN (Below.refl _ _) nq))
    have HES8 := Lib.hid (HES.out.below (below_drewN (Below.refl _ _) nq))
    obtain ⟨wq, hwq⟩ : ∃ wq, wq = w7.drewN nq := ⟨_, rfl⟩
    rw [← hwq] at HB8 HDS8 HES8 ⊢
    clear hwq HSP7 HSQ7 HDS7 HES HEQ
    go_wp2_with fail
    go_loopw [24] (fun i wr => ∃ k : Nat, k ≤ m ∧ i = .int .i64 k ∧ Below wq.heap.size wq wr) (fun i _ => m - (intOf i).toNat)
    case atStart => exact ⟨0, Nat.zero_le _, rfl, Below.refl _ _⟩
    case round =>
      obtain ⟨k, hk, rfl, hb⟩ := hrel
      have i0 : (0 : Int) ≤ (k : Int) := by omega
      have HB9 := Lib.hid hb
      by_cases hlt : k < m
      · have i1 : (k : Int) < (m : Int) := by omega
        have i2 : (k : Int) < (l.length : Int) := by omega
        obtain ⟨db, hdb⟩ := get_of_lt (show k < ds.length by rw [HI6.out.1]; have := HMI.out; omega)
        obtain ⟨eb, heb⟩ := get_of_lt (show k < es.length by rw [HEL.out]; exact hlt)
        obtain ⟨gd, od, rfl, _, u0⟩ := (HDS8.out.below hb).one.get' hdb
        obtain ⟨ge, oe, rfl, _, u1⟩ := (HES8.out.below hb).one.get' heb
        have g1 : eb = true → db = true := fun e => by
          have := HGR.out ds es k HI6.out HI7.out (by rw [On, heb, e])
          rw [On, hdb] at this; cases this; rfl
        clear hdb heb hb
        cases eb
        · clear g1
          go_wp2_with fail
          go_roundw
          case rel => exact ⟨k + 1, by omega, by go_num, HB9.out⟩
          case measure => simp [intOf]; omega
        · obtain rfl : db = true := g1 rfl
          clear g1
          go_wp2_with fail
          go_roundw
          case rel => exact ⟨k + 1, by omega, by go_num, HB9.out⟩
          case measure => simp [intOf]; omega
      · obtain rfl : k = m := by omega
        have HB10 := Lib.hid (HB8.out.trans (hb.mono HB8.out.size))
        obtain ⟨gc, oc, rfl, _, u2⟩ := (HCB.out.below HB10.out).one.get' HCM.out
        have HD9 := Lib.hid ((HDS8.out.below hb).take (k := k) (by rw [HI6.out.1]; have := HMI.out; omega))
        have HE9 := Lib.hid (HES8.out.below hb)
        have z1 : (k : Int) ≤ (cd : Int) := by have := HDC.out; have := HMI.out; omega
        have HBO := Lib.hid (bools_any HE9.out.one HD9.out.one)
        clear hb
        cases cb
        · have HEQ2 := Lib.hid (HSM.out ds es HI6.out HI7.out (by rw [On, HCM.out]; simp))
          rw [eqB_of HEQ2.out] at HBO
          go_wp2_with fail
          refine HBO.out.mono ?_
          rintro e w9 ⟨rfl, n2, rfl⟩
          go_wp2_with fail
          go_ret
          exact ⟨rfl, below_drewN HB10.out n2⟩
        · go_wp2_with fail
          go_ret
          exact ⟨rfl, HB10.out⟩
end Go.Proofs.Ythcaedmkhghogaa
