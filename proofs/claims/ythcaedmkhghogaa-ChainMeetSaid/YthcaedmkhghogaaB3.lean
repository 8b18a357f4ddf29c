/- The walk of ChainMeet. -/
import Derived.Test.YthcaedmkhghogaaB1
namespace Go.Proofs.Ythcaedmkhghogaa
open Go.RowKit
set_option linter.unusedVariables false

theorem OkC.meets {l : List (Int × Int)} (h : OkC l) {a b c m n r : Nat} (ha : a < l.length) (hb : b < l.length) (hc : c < l.length) (h1 : IsMeet l a b m) (h2 : IsMeet l b c n) (h3 : IsMeet l a c r) :
    (m = n ∧ m ≤ r) ∨ (m < n ∧ m = r) ∨ (n < m ∧ n = r) := by
  have k1 : m ≤ n → m ≤ r := fun e => h3.most m h1.left ((h.line h1.right h2.left hb e).trans h2.right)
  have k2 : n ≤ m → n ≤ r := fun e => h3.most n ((h.line h2.left h1.right hb e).trans h1.left) h2.right
  have k3 : m ≤ r → m ≤ n := fun e => h2.most m h1.right ((h.line h1.left h3.left ha e).trans h3.right)
  have k4 : r ≤ m → r ≤ n := fun e => h2.most r ((h.line h3.left h1.left ha e).trans h1.right) h3.right
  have k5 : n ≤ r → n ≤ m := fun e => h1.most n ((h.line h2.right h3.right hc e).trans h3.left) h2.left
  have k6 : r ≤ n → r ≤ m := fun e => h1.most r h3.left ((h.line h3.right h2.right hc e).trans h2.left)
  omega

set_option maxHeartbeats 8000000 in
theorem meetlaw_any {W : World} {v : Value} {l : List (Int × Int)} (a b c : Int) (h : SlS FK 2 W v l) :
    Calls Try.prog 5 #[v, .int .i64 a, .int .i64 b, .int .i64 c] W fun e w' => e = .returned (.bool true) ∧ Below W.heap.size W w' := by
  have HME := Lib.hid (fun a b (w1 : World) (hb : Below W.heap.size W w1) => meet_any a b (h.below hb))
  have HPA := Lib.hid (fun b (w1 : World) (hb : Below W.heap.size W w1) => path_any b (h.below hb))
  obtain ⟨ad, cap, rfl, hm⟩ := h.form
  have HS := Lib.hid h
  have HBL := Lib.hid (fun w1 (hb : Below W.heap.size W w1) => blocks_any (h.below hb))
  have HI1 := Lib.hid (fun (w1 : World) => inside_any (w := w1.alloc (.cells #[.int .i64 a, .int .i64 b] 3)) (l.length : Int) (Sl.lit (w := w1) (e := 3) [a, b] #[.int .i64 a, .int .i64 b] rfl (by simp)))
  have HI2 := Lib.hid (fun (w1 : World) => inside_any (w := w1.alloc (.cells #[.int .i64 c] 3)) (l.length : Int) (Sl.lit (w := w1) (e := 3) [c] #[.int .i64 c] rfl (by simp)))
  clear h
  by_cases ok : OkM l a b
  rotate_left
  · have HN := Lib.hid ok
    clear ok
    go_enter Try.func5, Try.ntmps5
    go_wp2_with fail
    refine (HME.out _ _ _ (Below.refl _ _)).mono ?_
    rintro e w1 ⟨⟨m, c, rfl, hc, _⟩, hb⟩
    have HB := Lib.hid hb
    have hc0 : ¬ c = 0 := fun h => HN.out (hc.1 h)
    have hc1 : (c != 0) = true := by simpa using hc0
    clear hb hc hc0
    go_wp2_with fail
    refine (HBL.out _ HB.out).mono ?_
    rintro e w2 ⟨⟨bo, rfl, hbo⟩, hb⟩
    have HB2 := Lib.hid (HB.out.trans (hb.mono HB.out.size))
    have HBO := Lib.hid hbo
    clear hb hbo
    cases bo
    · go_wp2_with fail
      go_ret
      exact ⟨rfl, HB2.out⟩
    · go_wp2_with fail
      refine (HI1.out _).mono ?_
      rintro e w3 ⟨rfl, rfl⟩
      have hi : insI (l.length : Int) [a, b] = false := by
        cases hh : insI (l.length : Int) [a, b]
        · rfl
        · have h1 := insI_iff.1 hh a (by simp)
          have h2 := insI_iff.1 hh b (by simp)
          exact absurd ⟨HBO.out.1 (by first | rfl | trivial), h1.1, h2.1, h1.2, h2.2⟩ HN.out
      rw [hi]
      go_wp2_with fail
      go_ret
      exact ⟨rfl, HB2.out.trans ((below_alloc w2 _).mono HB2.out.size)⟩
  · obtain ⟨ok0, a0, b0, a1, b1⟩ := id ok
    obtain ⟨a, rfl⟩ := Int.eq_ofNat_of_zero_le a0
    obtain ⟨b, rfl⟩ := Int.eq_ofNat_of_zero_le b0
    have HOK := Lib.hid ok
    clear ok
    have hal : a < l.length := by omega
    have hbl : b < l.length := by omega
    have HBA := Lib.hid (show OkM l b a from ⟨ok0, b0, a0, b1, a1⟩)
    have HPA1 := Lib.hid (show OkP l a from ⟨ok0, a0, a1⟩)
    have HPB1 := Lib.hid (show OkP l b from ⟨ok0, b0, b1⟩)
    go_enter Try.func5, Try.ntmps5
    go_wp2_with fail
    refine (HME.out _ _ _ (Below.refl _ _)).mono ?_
    rintro e w1 ⟨⟨m, c1, rfl, hc, hmm⟩, hb⟩
    obtain rfl : c1 = 0 := hc.2 HOK.out
    obtain ⟨m, rfl, hm1⟩ := hmm rfl
    have HM1 := Lib.hid (show IsMeet l a b m from hm1)
    have HB := Lib.hid hb
    clear hb hc hmm hm1
    go_wp2_with fail
    refine (HBL.out _ HB.out).mono ?_
    rintro e w2 ⟨⟨bo, rfl, hbo⟩, hb⟩
    obtain rfl : bo = true := hbo.2 HOK.out.1
    have HB2 := Lib.hid (HB.out.trans (hb.mono HB.out.size))
    clear hb hbo
    go_wp2_with fail
    refine (HI1.out _).mono ?_
    rintro e w3 ⟨rfl, rfl⟩
    have hi : insI (l.length : Int) [(a : Int), (b : Int)] = true := insI_iff.2 (by intro x hx; simp at hx; omega)
    rw [hi]
    have HB3 := Lib.hid (HB2.out.trans ((below_alloc w2 (.cells #[.int .i64 a, .int .i64 b] 3)).mono HB2.out.size))
    obtain ⟨wo, hwo⟩ : ∃ wo, wo = w2.alloc (.cells #[.int .i64 a, .int .i64 b] 3) := ⟨_, rfl⟩
    rw [← hwo] at HB3 ⊢
    clear hwo hi HB2
    go_wp2_with fail
    refine (HME.out _ _ _ HB3.out).mono ?_
    rintro e w4 ⟨⟨m2, c1, rfl, hc, hmm⟩, hb⟩
    obtain rfl : c1 = 0 := hc.2 HBA.out
    obtain ⟨m2, rfl, hm1⟩ := hmm rfl
    obtain rfl : m2 = m := IsMeet.uniq (IsMeet.sw hm1) HM1.out
    have HB4 := Lib.hid (HB3.out.trans (hb.mono HB3.out.size))
    clear hb hc hmm hm1
    go_wp2_with fail
    refine (HPA.out _ _ HB4.out).mono ?_
    rintro e w5 ⟨⟨pv, c1, rfl, hc, _, hsp⟩, hb⟩
    obtain rfl : c1 = 0 := hc.2 HPA1.out
    have HSP := Lib.hid (show SlS SZ 1 w5 pv (pathL l a) from hsp rfl)
    obtain ⟨ap, cp, rfl, _⟩ := HSP.out.form
    have HB5 := Lib.hid (HB4.out.trans (hb.mono HB4.out.size))
    clear hb hc hsp
    go_wp2_with fail
    refine (HPA.out _ _ HB5.out).mono ?_
    rintro e w6 ⟨⟨qv, c1, rfl, hc, _, hsp⟩, hb⟩
    obtain rfl : c1 = 0 := hc.2 HPB1.out
    have HSQ := Lib.hid (show SlS SZ 1 w6 qv (pathL l b) from hsp rfl)
    have HSP6 := Lib.hid (HSP.out.below hb)
    obtain ⟨aq, cq, rfl, _⟩ := HSQ.out.form
    have HB6 := Lib.hid (HB5.out.trans (hb.mono HB5.out.size))
    clear hb hc hsp HSP
    have HP1 := Lib.hid (position_any (m2 : Int) HSP6.out.one)
    have HP2 := Lib.hid (position_any (m2 : Int) HSQ.out.one)
    have HP3 := Lib.hid (position_any (a : Int) HSQ.out.one)
    have r1 : 0 ≤ posI (pathL l a) m2 := by
      refine Int.not_lt.1 fun hlt => posI_neg.1 hlt ((ok0.path_mem hal _).2 ⟨m2, rfl, HM1.out.left⟩)
    have r2 : 0 ≤ posI (pathL l b) m2 := by
      refine Int.not_lt.1 fun hlt => posI_neg.1 hlt ((ok0.path_mem hbl _).2 ⟨m2, rfl, HM1.out.right⟩)
    have r3 : (m2 = a ∧ 0 ≤ posI (pathL l b) a) ∨ (m2 ≠ a ∧ posI (pathL l b) a < 0) := by
      by_cases e : Anc l a b
      · exact .inl ⟨Nat.le_antisymm (ok0.anc_le HM1.out.left hal) (HM1.out.most a (.self a) e), Int.not_lt.1 fun hlt => posI_neg.1 hlt ((ok0.path_mem hbl _).2 ⟨a, rfl, e⟩)⟩
      · exact .inr ⟨fun h => e (h ▸ HM1.out.right), posI_neg.2 fun hm => e (by obtain ⟨a', h1, h2⟩ := (ok0.path_mem hbl _).1 hm; have : a = a' := (by omega); rw [this]; exact h2)⟩
    generalize posI (pathL l a) m2 = x1 at *
    generalize posI (pathL l b) m2 = x2 at *
    generalize posI (pathL l b) a = x3 at *
    generalize (pathL l a).length = n1 at *
    generalize (pathL l b).length = n2 at *
    clear HSP6 HSQ
    have s1 : decide (x1 < 0) = false := decide_eq_false (by omega)
    have s2 : decide (x2 < 0) = false := decide_eq_false (by omega)
    have s3 : (((m2 : Int) == (a : Int)) = true ∧ (!((m2 : Int) == (a : Int))) = false ∧ decide (0 ≤ x3) = true) ∨ (((m2 : Int) == (a : Int)) = false ∧ (!((m2 : Int) == (a : Int))) = true ∧ decide (0 ≤ x3) = false) := by
      rcases r3 with ⟨h1, h2⟩ | ⟨h1, h2⟩
      · exact .inl ⟨by simp; omega, by simp; omega, decide_eq_true h2⟩
      · exact .inr ⟨by simp; omega, by simp; omega, decide_eq_false (by omega)⟩
    go_wp2_with fail
    refine HP1.out.mono ?_
    rintro e w7 ⟨rfl, rfl⟩
    go_wp2_with fail
    refine HP2.out.mono ?_
    rintro e w7 ⟨rfl, rfl⟩
    go_wp2_with fail
    refine HP3.out.mono ?_
    rintro e w7 ⟨rfl, rfl⟩
    have HFIN := Lib.hid (fun (w9 : World) (hb : Below W.heap.size W w9) => hb.trans ((below_alloc w9 (.cells #[.int .i64 c] 3)).mono hb.size))
    have HLAST := Lib.hid (fun (c' : Nat) (hc : c' < l.length) n r h2 h3 => ok0.meets (a := a) (b := b) (c := c') (n := n) (r := r) hal hbl hc HM1.out h2 h3)
    have HKC := Lib.hid (fun (c' : Nat) (hc : c' < l.length) => And.intro (show OkM l b c' from ⟨ok0, by omega, by omega, by omega, by omega⟩) (show OkM l a c' from ⟨ok0, by omega, by omega, by omega, by omega⟩))
    have hz1 : ∀ (c : Int), (0 ≤ c ∧ c < l.length) ∨ insI (l.length : Int) [c] = false := by
      intro c
      cases hh : insI (l.length : Int) [c]
      · exact .inr rfl
      · exact .inl (insI_iff.1 hh c (by simp))
    rcases s3 with ⟨t1, t3, t2⟩ | ⟨t1, t3, t2⟩
    all_goals
      go_wp2_with fail
      all_goals first | (exfalso; omega) | skip
      clear t1 t2 t3 r3 s1 s2 r1 r2
      have HB7 := Lib.hid (HFIN.out _ HB6.out)
      refine (HI2.out _).mono ?_
      rintro e w7 ⟨rfl, rfl⟩
      rcases hz1 c with hcc | hcc
      · obtain ⟨c, rfl⟩ := Int.eq_ofNat_of_zero_le hcc.1
        have hcl : c < l.length := by omega
        have hi2 : insI (l.length : Int) [(c : Int)] = true := insI_iff.2 (by intro x hx; simp at hx; subst hx; exact hcc)
        have HKC' := Lib.hid (HKC.out c hcl)
        have HLA' := Lib.hid (HLAST.out c hcl)
        rw [hi2]
        obtain ⟨wq, hwq⟩ : ∃ wq, wq = w6.alloc (.cells #[.int .i64 c] 3) := ⟨_, rfl⟩
        rw [← hwq] at HB7 ⊢
        clear hwq hi2 hz1 hcc
        go_wp2_with fail
        refine (HME.out _ _ _ HB7.out).mono ?_
        rintro e w8 ⟨⟨n, c1, rfl, hc, hmm⟩, hb⟩
        obtain rfl : c1 = 0 := hc.2 HKC'.out.1
        obtain ⟨n, rfl, hm1⟩ := hmm rfl
        have HN1 := Lib.hid (show IsMeet l b c n from hm1)
        have HB8 := Lib.hid (HB7.out.trans (hb.mono HB7.out.size))
        clear hb hc hmm hm1
        go_wp2_with fail
        refine (HME.out _ _ _ HB8.out).mono ?_
        rintro e w9 ⟨⟨r, c1, rfl, hc, hmm⟩, hb⟩
        obtain rfl : c1 = 0 := hc.2 HKC'.out.2
        obtain ⟨r, rfl, hm1⟩ := hmm rfl
        have hL := HLA'.out n r HN1.out hm1
        have HB9 := Lib.hid (HB8.out.trans (hb.mono HB8.out.size))
        clear hb hc hmm hm1
        rcases hL with ⟨e1, e2⟩ | ⟨e1, e2⟩ | ⟨e1, e2⟩
        · subst e1
          go_wp2_with fail
          all_goals first | (exfalso; omega) | skip
          go_ret
          exact ⟨ret_bool (by first | (simp; done) | (simp; omega)), HB9.out⟩
        · subst e2
          have f1 : ((m2 : Int) == (n : Int)) = false := by simp; omega
          go_wp2_with fail
          all_goals first | (exfalso; omega) | skip
          go_ret
          exact ⟨ret_bool (by first | (simp; done) | (simp; omega)), HB9.out⟩
        · subst e2
          have f1 : ((m2 : Int) == (n : Int)) = false := by simp; omega
          go_wp2_with fail
          all_goals first | (exfalso; omega) | skip
          go_ret
          exact ⟨ret_bool (by first | (simp; done) | (simp; omega)), HB9.out⟩
      · rw [hcc]
        clear hz1 hcc
        go_wp2_with fail
        go_ret
        exact ⟨rfl, HB7.out⟩
end Go.Proofs.Ythcaedmkhghogaa
