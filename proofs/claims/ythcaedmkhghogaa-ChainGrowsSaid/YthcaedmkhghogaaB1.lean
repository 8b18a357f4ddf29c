/- The walk of ChainPath. -/
import Derived.Test.YthcaedmkhghogaaA6
import Derived.Test.YthcaedmkhghogaaH
namespace Go.Proofs.Ythcaedmkhghogaa
open Go.RowKit
set_option linter.unusedVariables false

theorem pathL_get {l : List (Int × Int)} {b i : Nat} (hi : i < (pathL l b).length) : (pathL l b)[i]? = ((ups l b b)[(ups l b b).length - 1 - i]?).map fun c : Nat => (c : Int) := by
  rw [pathL_len] at hi
  unfold pathL nI
  rw [List.getElem?_reverse (by simpa using hi), List.getElem?_map, List.length_map]
theorem OkC.path_first {l : List (Int × Int)} (h : OkC l) {b : Nat} (hl : b < l.length) : (pathL l b)[0]? = some 0 := by
  rw [pathL_get (pathL_pos l b), Nat.sub_zero, h.ups_last b b (Nat.le_refl _) hl]; rfl
theorem path_last (l : List (Int × Int)) (b : Nat) : (pathL l b)[(pathL l b).length - 1]? = some (b : Int) := by
  have := pathL_pos l b
  rw [pathL_get (by omega), pathL_len, Nat.sub_self, ups_first]; rfl
theorem OkC.path_mem {l : List (Int × Int)} (h : OkC l) {b : Nat} (hl : b < l.length) (c : Int) : c ∈ pathL l b ↔ ∃ c' : Nat, c = c' ∧ Anc l c' b := by
  unfold pathL nI
  rw [List.mem_reverse, List.mem_map]
  constructor
  · rintro ⟨a, ha, rfl⟩; exact ⟨a, rfl, (h.ups_mem b b (Nat.le_refl _) hl a).1 ha⟩
  · rintro ⟨a, rfl, ha⟩; exact ⟨a, (h.ups_mem b b (Nat.le_refl _) hl a).2 ha, rfl⟩
theorem OkC.path_ins {l : List (Int × Int)} (h : OkC l) {b : Nat} (hl : b < l.length) : insI (l.length : Int) (pathL l b) = true := by
  rw [insI_iff]
  intro x hx
  obtain ⟨c, rfl, hc⟩ := (h.path_mem hl x).1 hx
  have := h.anc_le hc hl
  omega
theorem OkC.path_step {l : List (Int × Int)} (h : OkC l) {b : Nat} (hl : b < l.length) {k : Nat} (hk : k + 1 < (pathL l b).length) : ∃ (c d : Nat) (x y : Int × Int), (pathL l b)[k + 1]? = some (c : Int) ∧ (pathL l b)[k]? = some (d : Int) ∧ l[c]? = some x ∧ x.1 = d ∧ l[d]? = some y ∧ y.2 < x.2 ∧ c < l.length ∧ d < l.length := by
  have hu := h.ups_up b b (Nat.le_refl _) hl
  rw [pathL_get hk, pathL_get (i := k) (by omega)]
  rw [pathL_len] at hk
  obtain ⟨c, hc⟩ := get_of_lt (show (ups l b b).length - 1 - (k + 1) < (ups l b b).length by omega)
  obtain ⟨d, hd⟩ := get_of_lt (show (ups l b b).length - 1 - k < (ups l b b).length by omega)
  have hcl := hu.lt _ c hc
  have hdl := hu.lt _ d hd
  obtain ⟨x, hx⟩ := get_of_lt hcl
  have e : (ups l b b).length - 1 - (k + 1) + 1 = (ups l b b).length - 1 - k := by omega
  have h1 := hu.next _ c x hc hx
  have h2 := hu.down _ c d hc (by rw [e]; exact hd)
  rw [e, hd] at h1
  obtain ⟨p1, p2, y, p3, p4⟩ := h.par (by omega) hx
  have : pr l c = d := by have : (pr l c : Int) = d := by rw [← p1]; exact h1
                          omega
  rw [this] at p3
  exact ⟨c, d, x, y, by rw [hc]; rfl, by rw [hd]; rfl, hx, h1, p3, p4, hcl, hdl⟩

set_option maxHeartbeats 4000000 in
theorem pathlaw_any {W : World} {v : Value} {l : List (Int × Int)} (b : Int) (h : SlS FK 2 W v l) :
    Calls Try.prog 4 #[v, .int .i64 b] W fun e w' => e = .returned (.bool true) ∧ Below W.heap.size W w' := by
  have HP := Lib.hid (path_any b h)
  obtain ⟨ad, cap, rfl, hm⟩ := h.form
  have HS := Lib.hid h
  have HBL := Lib.hid (fun w1 (hb : Below W.heap.size W w1) => blocks_any (h.below hb))
  have HI1 := Lib.hid (fun (w1 : World) => inside_any (w := w1.alloc (.cells #[.int .i64 b] 3)) (l.length : Int) (Sl.lit (w := w1) (e := 3) [b] #[.int .i64 b] rfl (by simp)))
  clear h
  by_cases ok : OkP l b
  rotate_left
  · have HN := Lib.hid ok
    clear ok
    go_enter Try.func4, Try.ntmps4
    go_wp2_with fail
    refine HP.out.mono ?_
    rintro e w1 ⟨⟨pv, c, rfl, hc, _, _⟩, hb⟩
    have HB := Lib.hid hb
    have hc0 : ¬ c = 0 := fun h => HN.out (hc.1 h)
    have hc1 : (c != 0) = true := by simpa using hc0
    clear hb hc hc0
    go_wp2_with fail
    refine (HBL.out _ HB.out).mono ?_
    rintro e w2 ⟨⟨bo, rfl, hbo⟩, hb⟩
    have HB2 := Lib.hid (HB.out.trans (hb.mono HB.out.size))
    have HBO := Lib.hid hbo
    clear hb hbo
    cases bo
    · go_wp2_with fail
      go_ret
      exact ⟨rfl, HB2.out⟩
    · go_wp2_with fail
      refine (HI1.out _).mono ?_
      rintro e w3 ⟨rfl, rfl⟩
      have hi : insI (l.length : Int) [b] = false := by
        cases hh : insI (l.length : Int) [b]
        · rfl
        · have := insI_iff.1 hh b (by simp)
          exact absurd ⟨HBO.out.1 (by first | rfl | trivial), this⟩ HN.out
      rw [hi]
      go_wp2_with fail
      go_ret
      exact ⟨rfl, HB2.out.trans ((below_alloc w2 _).mono HB2.out.size)⟩
  · obtain ⟨ok0, b0, b1⟩ := id ok
    obtain ⟨b, rfl⟩ := Int.eq_ofNat_of_zero_le b0
    have HOK := Lib.hid ok
    clear ok
    have hbl : b < l.length := by omega
    go_enter Try.func4, Try.ntmps4
    go_wp2_with fail
    refine HP.out.mono ?_
    rintro e w1 ⟨⟨pv, c, rfl, hc, _, hsp⟩, hb⟩
    obtain rfl : c = 0 := hc.2 HOK.out
    have hsp2 : SlS SZ 1 w1 pv (pathL l b) := hsp rfl
    have hpl := pathL_le l b
    have hfew := ok0.few
    obtain ⟨ap, cp, rfl, _⟩ := hsp2.form
    have HB := Lib.hid hb
    have HSP := Lib.hid hsp2
    clear hb hc hsp hsp2
    go_wp2_with fail
    refine (HBL.out _ HB.out).mono ?_
    rintro e w2 ⟨⟨bo, rfl, hbo⟩, hb⟩
    obtain rfl : bo = true := hbo.2 HOK.out.1
    have HB2 := Lib.hid (HB.out.trans (hb.mono HB.out.size))
    have HSP2 := Lib.hid (HSP.out.below hb)
    clear hb hbo
    go_wp2_with fail
    refine (HI1.out _).mono ?_
    rintro e w3 ⟨rfl, rfl⟩
    have hi : insI (l.length : Int) [(b : Int)] = true := insI_iff.2 (by intro x hx; simp at hx; subst hx; omega)
    rw [hi]
    have HB3 := Lib.hid (HB2.out.trans ((below_alloc w2 (.cells #[.int .i64 b] 3)).mono HB2.out.size))
    have HSP3 := Lib.hid (HSP2.out.below (below_alloc w2 (.cells #[.int .i64 b] 3)))
    obtain ⟨wo, hwo⟩ : ∃ wo, wo = w2.alloc (.cells #[.int .i64 b] 3) := ⟨_, rfl⟩
    rw [← hwo] at HB3 HSP3 ⊢
    clear hwo hi HSP2 HB2
    have hp0 := pathL_pos l b
    have HPS := Lib.hid (fun k (hk : k + 1 < (pathL l b).length) => ok0.path_step hbl hk)
    have HI2 := Lib.hid (inside_any (w := wo) (l.length : Int) HSP3.out.one)
    rw [ok0.path_ins hbl] at HI2
    have hx0 := ok0.path_first hbl
    have hxl := path_last l b
    generalize pathL l b = P at *
    obtain ⟨g, off, rfl, _, hc0⟩ := HSP3.out.el hx0
    obtain ⟨_, _, hge, _, hcl⟩ := HSP3.out.el hxl
    cases hge
    have c0 : wo.cell? ⟨g, off, none⟩ = some (.int .i64 0) := by have := hc0 0 _ rfl; simpa using this
    have cl : wo.cell? ⟨g, off + (P.length - 1), none⟩ = some (.int .i64 b) := by have := hcl 0 _ rfl; simpa using this
    have q0 : ((P.length : Int) == 0) = false := by rw [cast_beq0]; exact beq_eq_false_iff_ne.2 (by omega)
    have q1 : (0 : Int) < (P.length : Int) := by omega
    have q2 : (P.length : Int) ≤ 40 := by omega
    clear hx0 hxl hc0 hcl hp0 hpl
    go_wp2_with fail
    refine HI2.out.mono ?_
    rintro e w4 ⟨rfl, rfl⟩
    clear c0 cl
    go_wp2_with fail
    go_loopw [7] (fun i wr => ∃ k : Nat, k + 1 ≤ P.length ∧ i = .int .i64 ((k : Int) + 1) ∧ SlS SZ 1 wr (.slice (some ⟨g, off, none⟩) P.length cp) P ∧ Below W.heap.size W wr) (fun i _ => P.length + 1 - (intOf i).toNat)
    case atStart => exact ⟨0, by omega, rfl, HSP3.out, HB3.out⟩
    case round =>
      obtain ⟨k, hk, rfl, hsp, hb⟩ := hrel
      have i0 : (0 : Int) ≤ (k : Int) := by omega
      by_cases hlt : k + 1 < P.length
      · obtain ⟨c, d, x, y, e1, e2, e3, e4, e5, e6, e7, e8⟩ := HPS.out k hlt
        obtain ⟨_, _, hge, _, t0⟩ := hsp.one.get' e1
        cases hge
        obtain ⟨_, _, hge, _, t1⟩ := hsp.one.get' e2
        cases hge
        obtain ⟨bl, ol, rfl, _, hcx⟩ := (HS.out.below hb).el e3
        obtain ⟨_, _, hge, _, hcy⟩ := (HS.out.below hb).el e5
        cases hge
        have u0 : wr.cell? ⟨bl, ol + c * 2, none⟩ = some (.int .i64 x.1) := hcx 0 _ rfl
        have u1 : wr.cell? ⟨bl, ol + c * 2 + 1, none⟩ = some (.int .i64 x.2) := hcx 1 _ rfl
        have u2 : wr.cell? ⟨bl, ol + d * 2 + 1, none⟩ = some (.int .i64 y.2) := hcy 1 _ rfl
        rw [e4] at u0
        have i1 : (k : Int) + 1 < (P.length : Int) := by omega
        have i2 : (k : Int) < (P.length : Int) := by omega
        have j0 : (0 : Int) ≤ (c : Int) := by omega
        have j1 : (c : Int) < (l.length : Int) := by omega
        have j2 : (0 : Int) ≤ (d : Int) := by omega
        have j3 : (d : Int) < (l.length : Int) := by omega
        have j4 : decide (x.2 ≤ y.2) = false := decide_eq_false (by omega)
        have HB4 := Lib.hid hb
        have HSP4 := Lib.hid hsp
        clear e1 e2 e3 e4 e5 hcx hcy hsp hb
        go_wp2_with fail
        go_quiet (fail)
        go_wp2_with fail
        go_roundw
        case rel => exact ⟨k + 1, by omega, by go_num, HSP4.out.below (below_drewN (Below.refl _ _) _), below_drewN HB4.out _⟩
        case measure => simp [intOf]; omega
      · have hge : (P.length : Int) ≤ (k : Int) + 1 := by omega
        have HB4 := Lib.hid hb
        clear hsp hb
        go_wp2_with fail
        go_ret
        exact ⟨rfl, HB4.out⟩
end Go.Proofs.Ythcaedmkhghogaa
