/- The walk of ChainDecided. -/
import Derived.Test.YthcaedmkhghogaaA8
import Derived.Test.YthcaedmkhghogaaB1
import Derived.Test.YthcaedmkhghogaaS7
namespace Go.Proofs.Ythcaedmkhghogaa
open Go.RowKit
set_option linter.unusedVariables false

theorem SB_one (x : Bool) (u : Value) (h : u ∈ SB x) : u.oneCell' = true := by simp [SB] at h; subst h; rfl

theorem Sl.slsB {w : World} {a : Option Addr} {n c : Nat} {xs : List Bool} (h : Sl Value.bool w (.slice a n c) xs) (hc : n ≤ c) : SlS SB 1 w (.slice a n c) xs := by
  obtain ⟨a', c', e, hm, hn, hx⟩ := h
  cases e
  refine ⟨_, _, rfl, hm, ⟨hn, hc⟩, fun j x hj => ?_⟩
  obtain ⟨b, off, rfl, hlt, hcell⟩ := hx j x hj
  refine ⟨b, off, rfl, hlt, fun i u hu => ?_⟩
  have hi : i = 0 := by have := (List.getElem?_eq_some_iff.1 hu).1; simp [SB] at this; omega
  subst hi
  simp [SB] at hu; subst hu
  simpa using hcell
/-- more of them decide more -/
theorem IsDec.more {l : List (Int × Int)} {cs ds ms : List Bool} {n j : Nat} (h : IsDec l cs n ds) (h2 : IsDec l (cs.set j true) n ms) {b : Nat} (hb : On ds b) : On ms b := by
  have hs : ∀ i, On cs i → On (cs.set j true) i := by
    intro i hi
    unfold On at *
    rw [List.getElem?_set]
    split
    · rename_i e; subst e; rw [if_pos (List.getElem?_eq_some_iff.1 hi).1]
    · exact hi
  obtain ⟨c, h1, q1, q2, q3, q4, q5⟩ := (h.2 b).1 hb
  exact (h2.2 b).2 ⟨c, h1, q1, hs _ q2, hs _ q3, q4, q5⟩
theorem IsDec.down {l : List (Int × Int)} {cs ds : List Bool} {n : Nat} (hok : OkC l) (hn : n ≤ l.length) (h : IsDec l cs n ds) {b : Nat} (hb : On ds b) (h0 : 0 < b) : On ds (pr l b) := by
  obtain ⟨c, h1, q1, q2, q3, q4, q5⟩ := (h.2 b).1 hb
  exact (h.2 _).2 ⟨c, h1, q1, q2, q3, q4, (Anc.step h0 (.self _)).trans q5⟩

set_option maxHeartbeats 8000000 in
set_option maxRecDepth 100000 in
theorem declaw_any {W : World} {v vc : Value} {l : List (Int × Int)} {cs : List Bool} (kk : Int) (hk0 : 0 ≤ kk ∧ kk ≤ 255) (h : SlS FK 2 W v l) (hc : SlS SB 1 W vc cs) (hwf : ∀ t ∈ l, (Lit.int .i64 t.2).wf = true) :
    Calls Try.prog 3 #[v, vc, .int .u8 kk] W fun e w' => e = .returned (.bool true) ∧ Below W.heap.size W w' := by
  obtain ⟨kk, rfl⟩ := Int.eq_ofNat_of_zero_le hk0.1
  have HDE := Lib.hid (fun (cs' : List Bool) (vc' : Value) (w1 : World) (hb : Below W.heap.size W w1) (hc' : SlS SB 1 w1 vc' cs') => dec_any (W := w1) (h.below hb) hc' hwf)
  have HBL := Lib.hid (fun w1 (hb : Below W.heap.size W w1) => blocks_any (h.below hb))
  obtain ⟨al, cl, rfl, _⟩ := h.form
  have HS := Lib.hid h
  by_cases ok : OkD l cs
  rotate_left
  · obtain ⟨ac, cc, rfl, _⟩ := hc.form
    have HD1 := Lib.hid (HDE.out cs _ W (Below.refl _ _) hc)
    have HN := Lib.hid ok
    clear ok h hc hwf
    go_enter Try.func3, Try.ntmps3
    go_wp2_with fail
    refine HD1.out.mono ?_
    rintro e w1 ⟨⟨ov, c, rfl, hc, _, _⟩, hb⟩
    have HB := Lib.hid hb
    have hc0 : ¬ c = 0 := fun h => HN.out (hc.1 h)
    have hc1 : (c != 0) = true := by simpa using hc0
    clear hb hc hc0
    go_wp2_with fail
    refine (HBL.out _ HB.out).mono ?_
    rintro e w2 ⟨⟨bo, rfl, hbo⟩, hb⟩
    have HB2 := Lib.hid (HB.out.trans (hb.mono HB.out.size))
    have HBO := Lib.hid hbo
    clear hb hbo
    cases bo
    · go_wp2_with fail
      go_ret
      exact ⟨rfl, HB2.out⟩
    · have hll : ¬ cs.length = l.length := fun e => HN.out ⟨HBO.out.1 (by first | rfl | trivial), e⟩
      have hl1 : ((cs.length : Int) != (l.length : Int)) = true := by simp; omega
      have hl2 : ((cs.length : Int) == (l.length : Int)) = false := by simp; omega
      clear hll
      go_wp2_with fail
      go_ret
      exact ⟨rfl, HB2.out⟩
  · obtain ⟨ok0, hlen⟩ := id ok
    obtain ⟨ac, cc, rfl, _⟩ := hc.form
    rw [hlen] at hc ⊢
    have HD1 := Lib.hid (HDE.out cs _ W (Below.refl _ _) hc)
    have HC := Lib.hid hc
    have HOD := Lib.hid ok
    have HLN := Lib.hid hlen
    have o1 := ok0.one
    have o2 := ok0.few
    obtain ⟨j, hj⟩ : ∃ j, j = kk % l.length := ⟨_, rfl⟩
    have hmod : (kk : Int) % (l.length : Int) = (j : Int) := by rw [hj]; rfl
    have hjl : j < l.length := by rw [hj]; exact Nat.mod_lt _ o1
    have HOD2 := Lib.hid (show OkD l (cs.set j true) from ⟨ok0, by simp [hlen]⟩)
    have HWF := Lib.hid hwf
    have q0 : (0 : Int) ≤ (j : Int) := by omega
    have q1 : (j : Int) < (l.length : Int) := by omega
    have q2 : (l.length : Int) ≤ 40 := by omega
    have q3 : (0 : Int) < (l.length : Int) := by omega
    have q4 : ((l.length : Int) == 0) = false := by rw [cast_beq0]; exact beq_eq_false_iff_ne.2 (by omega)
    have q5 : (0 : Int) ≤ (kk : Int) := by omega
    have q6 : (kk : Int) ≤ 255 := hk0.2
    clear ok h hc hwf hlen hj hk0
    go_enter Try.func3, Try.ntmps3
    go_wp2_with fail
    refine HD1.out.mono ?_
    rintro e w1 ⟨⟨dv, c, rfl, hc, _, hds⟩, hb⟩
    obtain rfl : c = 0 := hc.2 HOD.out
    obtain ⟨ds, hs1, hd1⟩ := hds rfl
    have HB := Lib.hid hb
    have HDS := Lib.hid hs1
    have HI1 := Lib.hid hd1
    obtain ⟨ad, cd, rfl, _⟩ := hs1.form
    have hdl := hd1.1
    rw [hdl] at HDS ⊢
    clear hb hc hds hs1 hd1 hdl
    go_wp2_with fail
    refine (HBL.out _ HB.out).mono ?_
    rintro e w2 ⟨⟨bo, rfl, hbo⟩, hb⟩
    obtain rfl : bo = true := hbo.2 HOD.out.1
    have HB2 := Lib.hid (HB.out.trans (hb.mono HB.out.size))
    have HDS2 := Lib.hid (HDS.out.below hb)
    clear hb hbo HDS
    have HSW := Lib.hid (Sat.start w2)
    have HC2 := Lib.hid (HC.out.below HB2.out)
    have HCL := Lib.hid (show cs.length * 1 ≤ 140737488355328 by rw [HLN.out]; omega)
    go_wp2_with (at_builtin; go_loud (refine wpList_copyAll rfl _ _ 23 rfl Try.eB SB SB_len SB_one rfl rfl HSW.out (HC2.out.below (below_alloc _ _)) HCL.out ?_; intro v1 w3 hv1 h1; have H1 := Lib.hid h1; obtain ⟨av, cv, hv1⟩ := hv1; rw [HLN.out] at hv1; subst hv1; clear h1))
    obtain ⟨gv, ov, cv', hv⟩ := H1.out.ows.some_of (fun e => by have := HLN.out; rw [e] at this; simp at this; omega)
    rw [HLN.out] at hv
    cases hv
    have HBX := Lib.hid (HB2.out.trans (H1.out.below.mono HB2.out.size))
    have hjc : j < cs.length := by rw [HLN.out]; exact hjl
    obtain ⟨z, hz⟩ := get_of_lt hjc
    obtain ⟨d0, d1⟩ := H1.out.cell1 hz rfl
    have H3 := Lib.hid (H1.out.put1 SB_len (j := j) hjc (u := .bool true) (y := true) rfl)
    clear hjc hz
    have hidx : (Instr.indexAt 23 (Value.slice (some ⟨gv, ov, none⟩) l.length cv) (Value.int .i64 (j : Int))).run Try.prog w3 = .ok (.pointer (some ⟨gv, ov + j, none⟩)) w3 := by
      go_simp
    go_wp2_with fail
    simp only [hidx]
    go_wp2_with fail
    clear hidx hmod
    have HB3 := Lib.hid (HB2.out.trans (H3.out.below.mono HB2.out.size))
    have HSM := Lib.hid (H3.out.sls (by rw [List.length_set, HLN.out]; omega))
    have HLS := Lib.hid (show (cs.set j true).length = l.length by rw [List.length_set]; exact HLN.out)
    refine (HDE.out (cs.set j true) _ _ HB3.out HSM.out).mono ?_
    rintro e w4 ⟨⟨mv, c, rfl, hc, _, hms⟩, hb⟩
    obtain rfl : c = 0 := hc.2 HOD2.out
    obtain ⟨ms, hs4, hm1⟩ := hms rfl
    have HB4 := Lib.hid (HB3.out.trans (hb.mono HB3.out.size))
    have HDS4 := Lib.hid (HDS2.out.below (H3.out.below.trans (hb.mono H3.out.below.size)))
    have HI2 := Lib.hid hm1
    have HMS := Lib.hid hs4
    obtain ⟨am, cm, rfl, _⟩ := hs4.form
    have hml := hm1.1
    rw [hml] at HMS ⊢
    have HCS := Lib.hid (HC.out.below HB4.out)
    clear hb hc hms hs4 hm1 hml d0 d1 HDS2 HSM H1 H3 HC2 HC
    go_wp2_with fail
    go_loopw [12] (fun i wr => ∃ k : Nat, k ≤ l.length ∧ i = .int .i64 k ∧ Below w4.heap.size w4 wr) (fun i _ => l.length - (intOf i).toNat)
    case atStart => exact ⟨0, Nat.zero_le _, rfl, Below.refl _ _⟩
    case round =>
      obtain ⟨k, hk, rfl, hb⟩ := hrel
      have i0 : (0 : Int) ≤ (k : Int) := by omega
      by_cases hlt : k < l.length
      · obtain ⟨x, hx⟩ := get_of_lt hlt
        have hbW := HB4.out.trans (hb.mono HB4.out.size)
        obtain ⟨b0, off, rfl, hlb, hcx⟩ := (HS.out.below hbW).el hx
        have t0 : wr.cell? ⟨b0, off + k * 2, none⟩ = some (.int .i64 x.1) := hcx 0 _ rfl
        have t1 : wr.cell? ⟨b0, off + k * 2 + 1, none⟩ = some (.int .i64 x.2) := hcx 1 _ rfl
        have i1 : (k : Int) < (l.length : Int) := by omega
        obtain ⟨db, hdb⟩ := get_of_lt (show k < ds.length by rw [HI1.out.1]; exact hlt)
        obtain ⟨mb, hmb⟩ := get_of_lt (show k < ms.length by rw [HI2.out.1]; exact hlt)
        obtain ⟨cb, hcb⟩ := get_of_lt (show k < cs.length by rw [HLN.out]; exact hlt)
        obtain ⟨gd, od, rfl, _, u0⟩ := (HDS4.out.below hb).one.get' hdb
        obtain ⟨gm, om, rfl, _, u1⟩ := (HMS.out.below hb).one.get' hmb
        obtain ⟨gc, oc, rfl, _, u2⟩ := (HCS.out.below hb).one.get' hcb
        have g1 : db = true → mb = true := fun e => by
          have := HI1.out.more HI2.out (b := k) (by rw [On, hdb, e])
          rw [On, hmb] at this; cases this; rfl
        have HB5 := Lib.hid hb
        by_cases hk0 : k = 0
        · subst hk0
          simp only [Nat.add_zero] at u0 u1 u2
          clear hx hcx hdb hmb hcb hb hbW
          cases db
          · clear g1
            go_wp2_with fail
            go_quiet (fail)
            go_wp2_with fail
            go_roundw
            case rel => exact ⟨1, by omega, by go_num, below_drewN HB5.out _⟩
            case measure => simp [intOf]; omega
          · obtain rfl : mb = true := g1 rfl
            clear g1
            go_wp2_with fail
            go_quiet (fail)
            go_wp2_with fail
            go_roundw
            case rel => exact ⟨1, by omega, by go_num, below_drewN HB5.out _⟩
            case measure => simp [intOf]; omega
        · have hk1 : (0 : Int) < (k : Int) := by omega
          have hk2 : decide ((0 : Int) < (k : Int)) = true := decide_eq_true hk1
          have hk3 : decide (0 < k) = true := decide_eq_true (by omega)
          have hk4 : 0 < k := by omega
          obtain ⟨p1, p2, y, p3, p4⟩ := HOD.out.1.par hk4 hx
          obtain ⟨_, _, hge, _, hcy⟩ := (HS.out.below hbW).el p3
          cases hge
          have t2 : wr.cell? ⟨b0, off + pr l k * 2 + 1, none⟩ = some (.int .i64 y.2) := hcy 1 _ rfl
          obtain ⟨dp, hdp⟩ := get_of_lt (show pr l k < ds.length by rw [HI1.out.1]; omega)
          obtain ⟨cp, hcp⟩ := get_of_lt (show pr l k < cs.length by rw [HLN.out]; omega)
          obtain ⟨_, _, hge, _, u3⟩ := (HDS4.out.below hb).one.get' hdp
          cases hge
          obtain ⟨_, _, hge, _, u4⟩ := (HCS.out.below hb).one.get' hcp
          cases hge
          rw [p1] at t0
          have g2 : db = true → dp = true := fun e => by
            have := HI1.out.down HOD.out.1 (Nat.le_refl _) (b := k) (by rw [On, hdb, e]) hk4
            rw [On, hdp] at this; cases this; rfl
          have g3 : cb = true → cp = true → x.2 = y.2 + 1 → dp = true := fun h1 h2 h3 => by
            have : On ds (pr l k) := (HI1.out.2 _).2 ⟨k, hlt, hk4, by rw [On, hcb, h1], by rw [On, hcp, h2], ⟨x, y, hx, p3, h3⟩, .self _⟩
            rw [On, hdp] at this; cases this; rfl
          have hw1 := (bounds_i64 (HWF.out x (List.mem_of_getElem? hx))).2
          have hw2 := (bounds_i64 (HWF.out y (List.mem_of_getElem? p3))).1
          have hw3 : y.2 + 1 ≤ 9223372036854775807 := by omega
          have hw4 : -9223372036854775808 ≤ y.2 + 1 := by omega
          have j0 : (0 : Int) ≤ (pr l k : Int) := by omega
          have j1 : (pr l k : Int) < (l.length : Int) := by omega
          clear hx hcx hdb hmb hcb hdp hcp hb hbW p1 p3 hcy
          cases db
          · clear g1
            cases cb
            · clear g3 g2
              go_wp2_with fail
              go_quiet (fail)
              go_wp2_with fail
              go_roundw
              case rel => exact ⟨k + 1, by omega, by go_num, below_drewN HB5.out _⟩
              case measure => simp [intOf]; omega
            cases cp
            · clear g3 g2
              go_wp2_with fail
              go_quiet (fail)
              go_wp2_with fail
              go_roundw
              case rel => exact ⟨k + 1, by omega, by go_num, below_drewN HB5.out _⟩
              case measure => simp [intOf]; omega
            by_cases hr : x.2 = y.2 + 1
            rotate_left
            · have r1 : (x.2 == y.2 + 1) = false := by simpa using hr
              have r2 : decide (x.2 = y.2 + 1) = false := by simpa using hr
              clear g3 g2
              go_wp2_with fail
              go_quiet (fail)
              go_wp2_with fail
              go_roundw
              case rel => exact ⟨k + 1, by omega, by go_num, below_drewN HB5.out _⟩
              case measure => simp [intOf]; omega
            have hdp : dp = true := g3 rfl rfl hr
            subst hdp
            rw [hr] at t1
            have r1 : (x.2 == y.2 + 1) = true := by simpa using hr
            clear hr g3 g2
            go_wp2_with fail
            go_quiet (fail)
            go_wp2_with fail
            go_roundw
            case rel => exact ⟨k + 1, by omega, by go_num, below_drewN HB5.out _⟩
            case measure => simp [intOf]; omega
          · obtain rfl : mb = true := g1 rfl
            obtain rfl : dp = true := g2 rfl
            clear g1
            cases cb
            · clear g3 g2
              go_wp2_with fail
              go_quiet (fail)
              go_wp2_with fail
              go_roundw
              case rel => exact ⟨k + 1, by omega, by go_num, below_drewN HB5.out _⟩
              case measure => simp [intOf]; omega
            cases cp
            · clear g3 g2
              go_wp2_with fail
              go_quiet (fail)
              go_wp2_with fail
              go_roundw
              case rel => exact ⟨k + 1, by omega, by go_num, below_drewN HB5.out _⟩
              case measure => simp [intOf]; omega
            by_cases hr : x.2 = y.2 + 1
            rotate_left
            · have r1 : (x.2 == y.2 + 1) = false := by simpa using hr
              have r2 : decide (x.2 = y.2 + 1) = false := by simpa using hr
              clear g3 g2
              go_wp2_with fail
              go_quiet (fail)
              go_wp2_with fail
              go_roundw
              case rel => exact ⟨k + 1, by omega, by go_num, below_drewN HB5.out _⟩
              case measure => simp [intOf]; omega
            skip
            rw [hr] at t1
            have r1 : (x.2 == y.2 + 1) = true := by simpa using hr
            clear hr g3 g2
            go_wp2_with fail
            go_quiet (fail)
            go_wp2_with fail
            go_roundw
            case rel => exact ⟨k + 1, by omega, by go_num, below_drewN HB5.out _⟩
            case measure => simp [intOf]; omega
      · have hge : (l.length : Int) ≤ (k : Int) := by omega
        have HB5 := Lib.hid (HB4.out.trans (hb.mono HB4.out.size))
        clear hb
        go_wp2_with fail
        go_ret
        exact ⟨rfl, HB5.out⟩
end Go.Proofs.Ythcaedmkhghogaa
