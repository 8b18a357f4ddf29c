/- The walk of ChainSelf. -/
import Derived.Test.YthcaedmkhghogaaB1
namespace Go.Proofs.Ythcaedmkhghogaa
open Go.RowKit
set_option linter.unusedVariables false

set_option maxHeartbeats 4000000 in
theorem self_any {W : World} {v : Value} {l : List (Int × Int)} (b : Int) (kk : Int) (hk0 : 0 ≤ kk ∧ kk ≤ 255) (h : SlS FK 2 W v l) :
    Calls Try.prog 6 #[v, .int .i64 b, .int .u8 kk] W fun e w' => e = .returned (.bool true) ∧ Below W.heap.size W w' := by
  obtain ⟨kk, rfl⟩ := Int.eq_ofNat_of_zero_le hk0.1
  have HP := Lib.hid (path_any b h)
  obtain ⟨ad, cap, rfl, hm⟩ := h.form
  have HS := Lib.hid h
  have HME := Lib.hid (fun a b (w1 : World) (hb : Below W.heap.size W w1) => meet_any a b (h.below hb))
  have HBL := Lib.hid (fun w1 (hb : Below W.heap.size W w1) => blocks_any (h.below hb))
  have HI1 := Lib.hid (fun (w1 : World) => inside_any (w := w1.alloc (.cells #[.int .i64 b] 3)) (l.length : Int) (Sl.lit (w := w1) (e := 3) [b] #[.int .i64 b] rfl (by simp)))
  clear h
  by_cases ok : OkP l b
  rotate_left
  · have HN := Lib.hid ok
    clear ok
    go_enter Try.func6, Try.ntmps6
    go_wp2_with fail
    refine HP.out.mono ?_
    rintro e w1 ⟨⟨pv, c, rfl, hc, _, _⟩, hb⟩
    have HB := Lib.hid hb
    have hc0 : ¬ c = 0 := fun h => HN.out (hc.1 h)
    have hc1 : (c != 0) = true := by simpa using hc0
    clear hb hc hc0
    go_wp2_with fail
    refine (HBL.out _ HB.out).mono ?_
    rintro e w2 ⟨⟨bo, rfl, hbo⟩, hb⟩
    have HB2 := Lib.hid (HB.out.trans (hb.mono HB.out.size))
    have HBO := Lib.hid hbo
    clear hb hbo
    cases bo
    · go_wp2_with fail
      go_ret
      exact ⟨rfl, HB2.out⟩
    · go_wp2_with fail
      refine (HI1.out _).mono ?_
      rintro e w3 ⟨rfl, rfl⟩
      have hi : insI (l.length : Int) [b] = false := by
        cases hh : insI (l.length : Int) [b]
        · rfl
        · have := insI_iff.1 hh b (by simp)
          exact absurd ⟨HBO.out.1 (by first | rfl | trivial), this⟩ HN.out
      rw [hi]
      go_wp2_with fail
      go_ret
      exact ⟨rfl, HB2.out.trans ((below_alloc w2 _).mono HB2.out.size)⟩
  · obtain ⟨ok0, b0, b1⟩ := id ok
    obtain ⟨b, rfl⟩ := Int.eq_ofNat_of_zero_le b0
    have HOK := Lib.hid ok
    clear ok
    have hbl : b < l.length := by omega
    go_enter Try.func6, Try.ntmps6
    go_wp2_with fail
    refine HP.out.mono ?_
    rintro e w1 ⟨⟨pv, c, rfl, hc, _, hsp⟩, hb⟩
    obtain rfl : c = 0 := hc.2 HOK.out
    have hsp2 : SlS SZ 1 w1 pv (pathL l b) := hsp rfl
    have hpl := pathL_le l b
    have hfew := ok0.few
    obtain ⟨ap, cp, rfl, _⟩ := hsp2.form
    have HB := Lib.hid hb
    have HSP := Lib.hid hsp2
    clear hb hc hsp hsp2
    go_wp2_with fail
    refine (HBL.out _ HB.out).mono ?_
    rintro e w2 ⟨⟨bo, rfl, hbo⟩, hb⟩
    obtain rfl : bo = true := hbo.2 HOK.out.1
    have HB2 := Lib.hid (HB.out.trans (hb.mono HB.out.size))
    have HSP2 := Lib.hid (HSP.out.below hb)
    clear hb hbo
    go_wp2_with fail
    refine (HI1.out _).mono ?_
    rintro e w3 ⟨rfl, rfl⟩
    have hi : insI (l.length : Int) [(b : Int)] = true := insI_iff.2 (by intro x hx; simp at hx; subst hx; omega)
    rw [hi]
    have HB3 := Lib.hid (HB2.out.trans ((below_alloc w2 (.cells #[.int .i64 b] 3)).mono HB2.out.size))
    have HSP3 := Lib.hid (HSP2.out.below (below_alloc w2 (.cells #[.int .i64 b] 3)))
    obtain ⟨wo, hwo⟩ : ∃ wo, wo = w2.alloc (.cells #[.int .i64 b] 3) := ⟨_, rfl⟩
    rw [← hwo] at HB3 HSP3 ⊢
    clear hwo hi HSP2 HB2
    have hp0 := pathL_pos l b
    obtain ⟨q, hq⟩ : ∃ q, q = kk % (pathL l b).length := ⟨_, rfl⟩
    have hql : q < (pathL l b).length := by rw [hq]; exact Nat.mod_lt _ hp0
    obtain ⟨y, hy⟩ := get_of_lt hql
    obtain ⟨y, rfl, hya⟩ := (ok0.path_mem hbl y).1 (List.mem_of_getElem? hy)
    have hyb := ok0.anc_le hya hbl
    have hmod : (kk : Int) % ((pathL l b).length : Int) = (q : Int) := by rw [hq]; rfl
    have M1 := Lib.hid (fun m (hm : IsMeet l b b m) => hm.uniq (IsMeet.self ok0 hbl))
    have M2 := Lib.hid (fun m (hm : IsMeet l b 0 m) => hm.uniq (n := 0) ⟨ok0.anc_zero b b (Nat.le_refl _) hbl, .self 0, fun c _ h2 => ok0.anc_le h2 ok0.one⟩)
    have M3 := Lib.hid (fun m (hm : IsMeet l y b m) => hm.uniq (n := y) ⟨.self y, hya, fun c h1 _ => ok0.anc_le h1 (by omega)⟩)
    have o1 := ok0.one
    have K1 := Lib.hid (show OkM l b b from ⟨ok0, by omega, by omega, by omega, by omega⟩)
    have K2 := Lib.hid (show OkM l b 0 from ⟨ok0, by omega, by omega, by omega, by omega⟩)
    have K3 := Lib.hid (show OkM l y b from ⟨ok0, by omega, by omega, by omega, by omega⟩)
    generalize pathL l b = P at *
    obtain ⟨g, off, rfl, _, c0⟩ := HSP3.out.one.get' hy
    have q0 : ((P.length : Int) == 0) = false := by rw [cast_beq0]; exact beq_eq_false_iff_ne.2 (by omega)
    have q1 : (0 : Int) < (P.length : Int) := by omega
    have q2 : (P.length : Int) ≤ 40 := by omega
    have q3 : (q : Int) < (P.length : Int) := by omega
    have q4 : (0 : Int) ≤ (q : Int) := by omega
    have q5 : (0 : Int) ≤ (kk : Int) := by omega
    have q6 : (kk : Int) ≤ 255 := hk0.2
    clear hq hy hp0 hpl hk0 o1
    go_wp2_with fail
    refine (HME.out _ _ _ HB3.out).mono ?_
    rintro e w4 ⟨⟨m, c, rfl, hc, hmm⟩, hb⟩
    obtain rfl : c = 0 := hc.2 K1.out
    obtain ⟨m, rfl, hm1⟩ := hmm rfl
    obtain rfl : m = b := M1.out m hm1
    have HB4 := Lib.hid (HB3.out.trans (hb.mono HB3.out.size))
    clear hb hc hmm hm1 c0 hmod
    go_wp2_with fail
    refine (HME.out _ _ _ HB4.out).mono ?_
    rintro e w5 ⟨⟨m2, c, rfl, hc, hmm⟩, hb⟩
    obtain rfl : c = 0 := hc.2 K2.out
    obtain ⟨m2, rfl, hm1⟩ := hmm rfl
    obtain rfl : m2 = 0 := M2.out m2 hm1
    have HB5 := Lib.hid (HB4.out.trans (hb.mono HB4.out.size))
    clear hb hc hmm hm1
    go_wp2_with fail
    refine (HME.out _ _ _ HB5.out).mono ?_
    rintro e w6 ⟨⟨m3, c, rfl, hc, hmm⟩, hb⟩
    obtain rfl : c = 0 := hc.2 K3.out
    obtain ⟨m3, rfl, hm1⟩ := hmm rfl
    obtain rfl : m3 = y := M3.out m3 hm1
    have HB6 := Lib.hid (HB5.out.trans (hb.mono HB5.out.size))
    clear hb hc hmm hm1
    go_wp2_with fail
    go_ret
    exact ⟨ret_bool (by simp), HB6.out⟩
end Go.Proofs.Ythcaedmkhghogaa
