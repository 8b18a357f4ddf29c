/- Paxos' machine in memory, and its steps' walks. -/
import Derived.Test.YtbakeeempbadcaaS3
import Derived.Test.YtbakeeempbadcaaL4
import Derived.Test.YtbakeeempbadcaaProg
import Derived.BigRegion
import Derived.StillTailTactics
import Derived.Outline
namespace Go.Proofs.Ytbakeeempbadcaa
open Go.RowKit
set_option linter.unusedVariables false
attribute [local go_sem] EffAt EffUpon

structure Vt where
  pm : Int
  tn : Int
  tv : Int
structure Bl where
  own : Int
  bn : Int
  bv : Int
  pr : Nat
  fx : Bool
  tk : List (Int × Int)

def FV (v : Vt) : List Value := [.int .i64 v.pm, .int .i64 v.tn, .int .i64 v.tv]
theorem FV_len (v : Vt) : (FV v).length = 3 := rfl
def FB (b : Int × Int) : List Value := [.int .i64 b.1, .int .i64 b.2]
theorem FB_len (v : Int × Int) : (FB v).length = 2 := rfl
def RB (b : Bl) (tb : Nat) : List Value := [.int .i64 b.own, .int .i64 b.bn, .int .i64 b.bv, .int .i64 b.pr, .bool b.fx, .map (some tb)]

/-- a voter's three cells -/
theorem OwS.three {w : World} {B g o n cap i : Nat} {vs : List Vt} {p : Vt} (h : OwS FV 3 w B (.slice (some ⟨g, o, none⟩) n cap) vs) (hi : vs[i]? = some p) :
    (w.cell? ⟨g, o + i * 3, none⟩ = some (.int .i64 p.pm) ∧ w.cell? ⟨g, o + i * 3 + 1, none⟩ = some (.int .i64 p.tn) ∧ w.cell? ⟨g, o + i * 3 + 2, none⟩ = some (.int .i64 p.tv)) ∧
    (w.frozen? ⟨g, o + i * 3, none⟩ = false ∧ w.frozen? ⟨g, o + i * 3 + 1, none⟩ = false ∧ w.frozen? ⟨g, o + i * 3 + 2, none⟩ = false) := by
  obtain ⟨c0, f0⟩ := h.el0 hi (u := .int .i64 p.pm) rfl (by decide)
  obtain ⟨c1, f1⟩ := h.el hi 1 (u := .int .i64 p.tn) rfl (by decide)
  obtain ⟨c2, f2⟩ := h.el hi 2 (u := .int .i64 p.tv) rfl (by decide)
  exact ⟨⟨c0, c1, c2⟩, f0, f1, f2⟩

theorem most_any {S n cap : Nat} {a : Option Addr} {k : Int} {w : World} (hk0 : 0 ≤ k) (hk : k ≤ 1000) (r0 : w.cell? ⟨S, 0, none⟩ = some (.slice a n cap)) :
    Calls Try.prog 12 #[.pointer (some ⟨S, 0, none⟩), .int .i64 k] w fun e w' => e = .returned (.bool (decide ((n : Int) < 2 * k))) ∧ w = w' := by
  go_enter Try.func12, Try.ntmps12
  go_wp2_with fail
  go_ret
  exact ⟨rfl, rfl⟩

theorem Try.eB : Elem Try.prog 25 32 (.agg #[.int .i64 0, .int .i64 0]) 2 16 := ⟨Try.underlying25, by kernel_rfl, rfl, by decide⟩

def best1 (b : Bl) (v : Vt) : Bl := if b.bn < v.tn then { b with bn := v.tn, bv := v.tv } else b
def askB (n : Nat) (k : Int) (b : Bl) (v : Vt) : Bl :=
  if n < 2 * (b.pr + 1) then { best1 b v with pr := b.pr + 1, fx := true, bv := if (best1 b v).bn = 0 then b.own else (best1 b v).bv, bn := k } else { best1 b v with pr := b.pr + 1 }

abbrev recS (S : Nat) (vv : Value) (mp vc vf vch : Value) : Hp := Hp.rec_ S [vv, mp, vc, .slice none 0 0, vf, vch]

set_option maxHeartbeats 1000000 in
theorem ask_low {W w : World} {S g o cap ad tb i : Nat} {k : Int} {mp vc vf vch : Value} {vs : List Vt} {v : Vt} {b : Bl} {R : Hp}
    (H : Sat W w (Hp.own FV 3 (.slice (some ⟨g, o, none⟩) vs.length cap) vs * R)) (hi : vs[i]? = some v) (hk : k ≤ v.pm) :
    Calls Try.prog 10 #[.pointer (some ⟨S, 0, none⟩), .int .i64 k, .pointer (some ⟨ad, 0, none⟩), .pointer (some ⟨g, o + i * 3, none⟩)] w fun e w' => e = .returned (.int .i64 6) ∧ w = w' := by
  obtain ⟨⟨c0, c1, c2⟩, f0, f1, f2⟩ := H.ows.three hi
  clear H hi
  go_enter Try.func10, Try.ntmps10
  go_wp2_with fail
  go_ret
  exact ⟨rfl, rfl⟩

def askF (n : Nat) (k : Int) (b : Bl) (v : Vt) (fl : List (Int × Int)) : List (Int × Int) := if n < 2 * (b.pr + 1) then fl ++ [((askB n k b v).bn, (askB n k b v).bv)] else fl

theorem FB_one (x : Int × Int) (u : Value) (h : u ∈ FB x) : u.oneCell' = true := by simp [FB] at h; rcases h with rfl | rfl <;> rfl

set_option maxHeartbeats 2000000 in
theorem ask_some {W w : World} {S g o cap ad tb i : Nat} {k : Int} {mp vc vf vch : Value} {vs : List Vt} {v : Vt} {b : Bl} {R : Hp} {fl : List (Int × Int)}
    (H : Sat W w (Hp.own FV 3 (.slice (some ⟨g, o, none⟩) vs.length cap) vs * (Hp.rec_ ad (RB b tb) * (recS S (.slice (some ⟨g, o, none⟩) vs.length cap) mp vc vf vch * (Hp.own FB 2 vf fl * R)))))
    (hi : vs[i]? = some v) (hk : v.pm < k) (hf : b.fx = false) (hp : b.pr ≤ 200) (hfl : fl.length ≤ 1000) :
    Calls Try.prog 10 #[.pointer (some ⟨S, 0, none⟩), .int .i64 k, .pointer (some ⟨ad, 0, none⟩), .pointer (some ⟨g, o + i * 3, none⟩)] w fun e w' => e = .returned (.int .i64 0) ∧
      ∃ vf', Sat W w' (Hp.own FV 3 (.slice (some ⟨g, o, none⟩) vs.length cap) (vs.set i { v with pm := k }) * (Hp.rec_ ad (RB (askB vs.length k b v) tb) * (recS S (.slice (some ⟨g, o, none⟩) vs.length cap) mp vc vf' vch * (Hp.own FB 2 vf' (askF vs.length k b v fl) * R)))) := by
  have hil := (List.getElem?_eq_some_iff.1 hi).1
  obtain ⟨⟨c0, c1, c2⟩, f0, f1, f2⟩ := H.ows.three hi
  have H2 := H.drop
  have d0 := H2.cell 0 rfl
  have d1 := H2.cell 1 rfl
  have d2 := H2.cell 2 rfl
  have d3 := H2.cell 3 rfl
  have d4 := H2.cell 4 rfl
  have H3 := H2.drop
  have s0 := H3.cell 0 rfl
  have e0 := H2.free 0 rfl
  have e1 := H2.free 1 rfl
  have e2 := H2.free 2 rfl
  have e3 := H2.free 3 rfl
  have e4 := H2.free 4 rfl
  rw [hf] at d4
  have n1 := H.ne_own
  have n2 := H2.ne
  have n3 : g ≠ S := H.up2.sw.ne_own
  have n4 := n1.symm
  have n5 := n2.symm
  have n6 := n3.symm
  have hvs : vs.set i v = vs := set_same hi
  have HH := Lib.hid (show Sat W w (Hp.own FV 3 (.slice (some ⟨g, o, none⟩) vs.length cap) (vs.set i v) * (Hp.rec_ ad [.int .i64 b.own, .int .i64 b.bn, .int .i64 b.bv, .int .i64 b.pr, .bool b.fx, .map (some tb)] * (recS S (.slice (some ⟨g, o, none⟩) vs.length cap) mp vc vf vch * (Hp.own FB 2 vf fl * R)))) from by rw [hvs]; exact H)
  clear H H2 H3 hi hf hvs
  have HQ := Lib.hid (fun (w1 : World) (h : Sat W w1 (Hp.own FV 3 (.slice (some ⟨g, o, none⟩) vs.length cap) (vs.set i v) * (Hp.rec_ ad [.int .i64 b.own, .int .i64 b.bn, .int .i64 b.bv, .int .i64 b.pr, .bool b.fx, .map (some tb)] * (recS S (.slice (some ⟨g, o, none⟩) vs.length cap) mp vc vf vch * (Hp.own FB 2 vf fl * R))))) => (h.put0 FV_len hil (.int .i64 k) { v with pm := k } (by decide) rfl).sw)
  by_cases h1 : b.bn < v.tn
  · have H1c := Lib.hid h1
    by_cases hm : vs.length < 2 * (b.pr + 1)
    · have hm' : (vs.length : Int) < 2 * ((b.pr : Int) + 1) := by omega
      by_cases hz : v.tn = 0
      · have hz' : (v.tn == 0) = true := by simpa using hz
        have HZ := Lib.hid hz
        clear hz
        go_enter Try.func10, Try.ntmps10
        go_wp2_with fail
        go_quiet (fail)
        go_wp2_with (go_at_call 12; (with_reducible refine (most_any (n := vs.length) (cap := cap) (a := some ⟨g, o, none⟩) (by omega) (by omega) ?_).mono ?_); (focus go_simp); rintro e w' ⟨rfl, rfl⟩)
        refine region_in (W := W) ((((((((HQ.out _ HH.out).drewN _).set 1 _).set 2 _).set 3 _).set 4 _).set 2 _).set 1 _) fun w1 H1 => ?_
        clear c0 c1 c2 f0 f1 f2 d0 d1 d2 d3 d4 e0 e1 e2 e3 e4 s0
        obtain ⟨St, hne, F, hF, hFC⟩ := fact_class (fun w' => w'.cell? ⟨S, 4, none⟩ = some vf ∧ w'.cell? ⟨ad, 1, none⟩ = some (.int .i64 k) ∧ w'.cell? ⟨ad, 2, none⟩ = some (.int .i64 b.own)) (w := w1) ⟨H1.up2.cell 4 rfl, H1.cell 1 rfl, H1.cell 2 rfl⟩
        have g0 : ∀ s, (F s).cell? ⟨S, 4, none⟩ = some vf := fun s => (hF s).1
        have g1 : ∀ s, (F s).cell? ⟨ad, 1, none⟩ = some (.int .i64 k) := fun s => (hF s).2.1
        have g2 : ∀ s, (F s).cell? ⟨ad, 2, none⟩ = some (.int .i64 b.own) := fun s => (hF s).2.2
        have HFC := Lib.hid hFC
        clear hF hFC
        refine wp_region_ord (fun j => j == 10 || j == 11) 12 [0, 1, 2, 3, 4, 5, 6, 7, 8, 9, 10, 11] (pushC W FB 2 vf fl (k, b.own) _) (by kernel_rfl) (by kernel_rfl) (H1.up3.drawn _) ?_
        repeat (refine gWalk_val (fun w' => ∃ s, w' = F s) rfl rfl rfl rfl (fun us w' h => by obtain ⟨X, h⟩ := h.owned; exact HFC.out _ ⟨h.assoc.drop.assoc.drop.assoc.cell 4 rfl, h.assoc.cell 1 rfl, h.assoc.cell 2 rfl⟩) (fun K hK => ?_); simp only [List.getElem_toArray, List.getElem_cons_zero, List.getElem_cons_succ]; go_big_quiet_op; refine hK _ ?_; clear hK K)
        refine gWalk_build (cs := #[.int .i64 k, .int .i64 b.own]) (e := 32) rfl rfl rfl rfl (fun w => ?_) (fun gb => ?_)
        · simp only [List.getElem_toArray, List.getElem_cons_zero, List.getElem_cons_succ]
          go_simp
          rfl
        simp only [List.getElem_toArray, List.getElem_cons_zero, List.getElem_cons_succ, Act.put, List.setIfInBounds_toArray, List.set_cons_succ, List.set_cons_zero]
        refine gWalk_push (.tmp 81) (.tmp 86) 25 rfl rfl rfl rfl Try.eB FB_len FB_one rfl rfl (by omega) (by omega) (fun v' hv' => ?_)
        simp only [List.getElem_toArray, List.getElem_cons_zero, List.getElem_cons_succ, Act.put, List.setIfInBounds_toArray, List.set_cons_succ, List.set_cons_zero]
        rintro w2 ⟨_, H5⟩
        simp only [List.drop_succ_cons, List.drop_zero]
        have H6 := H5.up3
        have q0 := H6.cell 4 rfl
        have q1 := H6.free 4 rfl
        have H7 := Lib.hid H6
        obtain ⟨g', o', cap', rfl⟩ := hv'
        clear H5 H6
        go_wp2_with fail
        go_ret
        refine ⟨rfl, .slice (some ⟨g', o', none⟩) (fl.length + 1) cap', ?_⟩
        rw [show RB (askB vs.length k b v) tb = [.int .i64 b.own, .int .i64 k, .int .i64 b.own, .int .i64 ((b.pr : Int) + 1), .bool true, .map (some tb)] from by simp only [RB, askB, best1, if_pos hm, if_pos H1c.out, if_pos HZ.out]; try rfl, show askF vs.length k b v fl = fl ++ [(k, b.own)] from by unfold askF; rw [if_pos hm]; simp only [RB, askB, best1, if_pos hm, if_pos H1c.out, if_pos HZ.out]; try rfl]
        have H8 : Sat W _ (recS S (.slice (some ⟨g, o, none⟩) vs.length cap) mp vc (.slice (some ⟨g', o', none⟩) (fl.length + 1) cap') vch * _) := H7.out.set 4 _
        exact H8.cast (by ac_rfl)
      · have hz' : (v.tn == 0) = false := by simpa using hz
        have HZ := Lib.hid hz
        clear hz
        go_enter Try.func10, Try.ntmps10
        go_wp2_with fail
        go_quiet (fail)
        go_wp2_with (go_at_call 12; (with_reducible refine (most_any (n := vs.length) (cap := cap) (a := some ⟨g, o, none⟩) (by omega) (by omega) ?_).mono ?_); (focus go_simp); rintro e w' ⟨rfl, rfl⟩)
        refine region_in (W := W) (((((((HQ.out _ HH.out).drewN _).set 1 _).set 2 _).set 3 _).set 4 _).set 1 _) fun w1 H1 => ?_
        clear c0 c1 c2 f0 f1 f2 d0 d1 d2 d3 d4 e0 e1 e2 e3 e4 s0
        obtain ⟨St, hne, F, hF, hFC⟩ := fact_class (fun w' => w'.cell? ⟨S, 4, none⟩ = some vf ∧ w'.cell? ⟨ad, 1, none⟩ = some (.int .i64 k) ∧ w'.cell? ⟨ad, 2, none⟩ = some (.int .i64 v.tv)) (w := w1) ⟨H1.up2.cell 4 rfl, H1.cell 1 rfl, H1.cell 2 rfl⟩
        have g0 : ∀ s, (F s).cell? ⟨S, 4, none⟩ = some vf := fun s => (hF s).1
        have g1 : ∀ s, (F s).cell? ⟨ad, 1, none⟩ = some (.int .i64 k) := fun s => (hF s).2.1
        have g2 : ∀ s, (F s).cell? ⟨ad, 2, none⟩ = some (.int .i64 v.tv) := fun s => (hF s).2.2
        have HFC := Lib.hid hFC
        clear hF hFC
        refine wp_region_ord (fun j => j == 10 || j == 11) 12 [0, 1, 2, 3, 4, 5, 6, 7, 8, 9, 10, 11] (pushC W FB 2 vf fl (k, v.tv) _) (by kernel_rfl) (by kernel_rfl) (H1.up3.drawn _) ?_
        repeat (refine gWalk_val (fun w' => ∃ s, w' = F s) rfl rfl rfl rfl (fun us w' h => by obtain ⟨X, h⟩ := h.owned; exact HFC.out _ ⟨h.assoc.drop.assoc.drop.assoc.cell 4 rfl, h.assoc.cell 1 rfl, h.assoc.cell 2 rfl⟩) (fun K hK => ?_); simp only [List.getElem_toArray, List.getElem_cons_zero, List.getElem_cons_succ]; go_big_quiet_op; refine hK _ ?_; clear hK K)
        refine gWalk_build (cs := #[.int .i64 k, .int .i64 v.tv]) (e := 32) rfl rfl rfl rfl (fun w => ?_) (fun gb => ?_)
        · simp only [List.getElem_toArray, List.getElem_cons_zero, List.getElem_cons_succ]
          go_simp
          rfl
        simp only [List.getElem_toArray, List.getElem_cons_zero, List.getElem_cons_succ, Act.put, List.setIfInBounds_toArray, List.set_cons_succ, List.set_cons_zero]
        refine gWalk_push (.tmp 81) (.tmp 86) 25 rfl rfl rfl rfl Try.eB FB_len FB_one rfl rfl (by omega) (by omega) (fun v' hv' => ?_)
        simp only [List.getElem_toArray, List.getElem_cons_zero, List.getElem_cons_succ, Act.put, List.setIfInBounds_toArray, List.set_cons_succ, List.set_cons_zero]
        rintro w2 ⟨_, H5⟩
        simp only [List.drop_succ_cons, List.drop_zero]
        have H6 := H5.up3
        have q0 := H6.cell 4 rfl
        have q1 := H6.free 4 rfl
        have H7 := Lib.hid H6
        obtain ⟨g', o', cap', rfl⟩ := hv'
        clear H5 H6
        go_wp2_with fail
        go_ret
        refine ⟨rfl, .slice (some ⟨g', o', none⟩) (fl.length + 1) cap', ?_⟩
        rw [show RB (askB vs.length k b v) tb = [.int .i64 b.own, .int .i64 k, .int .i64 v.tv, .int .i64 ((b.pr : Int) + 1), .bool true, .map (some tb)] from by simp only [RB, askB, best1, if_pos hm, if_pos H1c.out, if_neg HZ.out]; try rfl, show askF vs.length k b v fl = fl ++ [(k, v.tv)] from by unfold askF; rw [if_pos hm]; simp only [RB, askB, best1, if_pos hm, if_pos H1c.out, if_neg HZ.out]; try rfl]
        have H8 : Sat W _ (recS S (.slice (some ⟨g, o, none⟩) vs.length cap) mp vc (.slice (some ⟨g', o', none⟩) (fl.length + 1) cap') vch * _) := H7.out.set 4 _
        exact H8.cast (by ac_rfl)
    · have hm' : 2 * ((b.pr : Int) + 1) ≤ (vs.length : Int) := by omega
      go_enter Try.func10, Try.ntmps10
      go_wp2_with fail
      go_quiet (fail)
      go_wp2_with (go_at_call 12; (with_reducible refine (most_any (n := vs.length) (cap := cap) (a := some ⟨g, o, none⟩) (by omega) (by omega) ?_).mono ?_); (focus go_simp); rintro e w' ⟨rfl, rfl⟩)
      go_ret
      refine ⟨rfl, vf, ?_⟩
      rw [show RB (askB vs.length k b v) tb = [.int .i64 b.own, .int .i64 v.tn, .int .i64 v.tv, .int .i64 ((b.pr : Int) + 1), .bool b.fx, .map (some tb)] from by simp only [RB, askB, best1, if_neg hm, if_pos H1c.out]; try rfl, show askF vs.length k b v fl = fl from by unfold askF; rw [if_neg hm]]
      refine Sat.cast (P := Hp.rec_ ad [.int .i64 b.own, .int .i64 v.tn, .int .i64 v.tv, .int .i64 ((b.pr : Int) + 1), .bool b.fx, .map (some tb)] * (Hp.own FV 3 (.slice (some ⟨g, o, none⟩) vs.length cap) (vs.set i { v with pm := k }) * (recS S (.slice (some ⟨g, o, none⟩) vs.length cap) mp vc vf vch * (Hp.own FB 2 vf fl * R)))) ?_ (by ac_rfl)
      exact ((((HQ.out _ HH.out).drewN _).set 1 _).set 2 _).set 3 _
  · have h1' : v.tn ≤ b.bn := by omega
    have H1c := Lib.hid h1'
    clear h1
    by_cases hm : vs.length < 2 * (b.pr + 1)
    · have hm' : (vs.length : Int) < 2 * ((b.pr : Int) + 1) := by omega
      by_cases hz : b.bn = 0
      · have hz' : (b.bn == 0) = true := by simpa using hz
        have HZ := Lib.hid hz
        clear hz
        go_enter Try.func10, Try.ntmps10
        go_wp2_with fail
        go_quiet (fail)
        go_wp2_with (go_at_call 12; (with_reducible refine (most_any (n := vs.length) (cap := cap) (a := some ⟨g, o, none⟩) (by omega) (by omega) ?_).mono ?_); (focus go_simp); rintro e w' ⟨rfl, rfl⟩)
        refine region_in (W := W) ((((((HQ.out _ HH.out).drewN _).set 3 _).set 4 _).set 2 _).set 1 _) fun w1 H1 => ?_
        clear c0 c1 c2 f0 f1 f2 d0 d1 d2 d3 d4 e0 e1 e2 e3 e4 s0
        obtain ⟨St, hne, F, hF, hFC⟩ := fact_class (fun w' => w'.cell? ⟨S, 4, none⟩ = some vf ∧ w'.cell? ⟨ad, 1, none⟩ = some (.int .i64 k) ∧ w'.cell? ⟨ad, 2, none⟩ = some (.int .i64 b.own)) (w := w1) ⟨H1.up2.cell 4 rfl, H1.cell 1 rfl, H1.cell 2 rfl⟩
        have g0 : ∀ s, (F s).cell? ⟨S, 4, none⟩ = some vf := fun s => (hF s).1
        have g1 : ∀ s, (F s).cell? ⟨ad, 1, none⟩ = some (.int .i64 k) := fun s => (hF s).2.1
        have g2 : ∀ s, (F s).cell? ⟨ad, 2, none⟩ = some (.int .i64 b.own) := fun s => (hF s).2.2
        have HFC := Lib.hid hFC
        clear hF hFC
        refine wp_region_ord (fun j => j == 10 || j == 11) 12 [0, 1, 2, 3, 4, 5, 6, 7, 8, 9, 10, 11] (pushC W FB 2 vf fl (k, b.own) _) (by kernel_rfl) (by kernel_rfl) (H1.up3.drawn _) ?_
        repeat (refine gWalk_val (fun w' => ∃ s, w' = F s) rfl rfl rfl rfl (fun us w' h => by obtain ⟨X, h⟩ := h.owned; exact HFC.out _ ⟨h.assoc.drop.assoc.drop.assoc.cell 4 rfl, h.assoc.cell 1 rfl, h.assoc.cell 2 rfl⟩) (fun K hK => ?_); simp only [List.getElem_toArray, List.getElem_cons_zero, List.getElem_cons_succ]; go_big_quiet_op; refine hK _ ?_; clear hK K)
        refine gWalk_build (cs := #[.int .i64 k, .int .i64 b.own]) (e := 32) rfl rfl rfl rfl (fun w => ?_) (fun gb => ?_)
        · simp only [List.getElem_toArray, List.getElem_cons_zero, List.getElem_cons_succ]
          go_simp
          rfl
        simp only [List.getElem_toArray, List.getElem_cons_zero, List.getElem_cons_succ, Act.put, List.setIfInBounds_toArray, List.set_cons_succ, List.set_cons_zero]
        refine gWalk_push (.tmp 81) (.tmp 86) 25 rfl rfl rfl rfl Try.eB FB_len FB_one rfl rfl (by omega) (by omega) (fun v' hv' => ?_)
        simp only [List.getElem_toArray, List.getElem_cons_zero, List.getElem_cons_succ, Act.put, List.setIfInBounds_toArray, List.set_cons_succ, List.set_cons_zero]
        rintro w2 ⟨_, H5⟩
        simp only [List.drop_succ_cons, List.drop_zero]
        have H6 := H5.up3
        have q0 := H6.cell 4 rfl
        have q1 := H6.free 4 rfl
        have H7 := Lib.hid H6
        obtain ⟨g', o', cap', rfl⟩ := hv'
        clear H5 H6
        go_wp2_with fail
        go_ret
        refine ⟨rfl, .slice (some ⟨g', o', none⟩) (fl.length + 1) cap', ?_⟩
        rw [show RB (askB vs.length k b v) tb = [.int .i64 b.own, .int .i64 k, .int .i64 b.own, .int .i64 ((b.pr : Int) + 1), .bool true, .map (some tb)] from by simp only [RB, askB, best1, if_pos hm, if_neg (Int.not_lt.2 H1c.out), if_pos HZ.out]; try rfl, show askF vs.length k b v fl = fl ++ [(k, b.own)] from by unfold askF; rw [if_pos hm]; simp only [RB, askB, best1, if_pos hm, if_neg (Int.not_lt.2 H1c.out), if_pos HZ.out]; try rfl]
        have H8 : Sat W _ (recS S (.slice (some ⟨g, o, none⟩) vs.length cap) mp vc (.slice (some ⟨g', o', none⟩) (fl.length + 1) cap') vch * _) := H7.out.set 4 _
        exact H8.cast (by ac_rfl)
      · have hz' : (b.bn == 0) = false := by simpa using hz
        have HZ := Lib.hid hz
        clear hz
        go_enter Try.func10, Try.ntmps10
        go_wp2_with fail
        go_quiet (fail)
        go_wp2_with (go_at_call 12; (with_reducible refine (most_any (n := vs.length) (cap := cap) (a := some ⟨g, o, none⟩) (by omega) (by omega) ?_).mono ?_); (focus go_simp); rintro e w' ⟨rfl, rfl⟩)
        refine region_in (W := W) (((((HQ.out _ HH.out).drewN _).set 3 _).set 4 _).set 1 _) fun w1 H1 => ?_
        clear c0 c1 c2 f0 f1 f2 d0 d1 d2 d3 d4 e0 e1 e2 e3 e4 s0
        obtain ⟨St, hne, F, hF, hFC⟩ := fact_class (fun w' => w'.cell? ⟨S, 4, none⟩ = some vf ∧ w'.cell? ⟨ad, 1, none⟩ = some (.int .i64 k) ∧ w'.cell? ⟨ad, 2, none⟩ = some (.int .i64 b.bv)) (w := w1) ⟨H1.up2.cell 4 rfl, H1.cell 1 rfl, H1.cell 2 rfl⟩
        have g0 : ∀ s, (F s).cell? ⟨S, 4, none⟩ = some vf := fun s => (hF s).1
        have g1 : ∀ s, (F s).cell? ⟨ad, 1, none⟩ = some (.int .i64 k) := fun s => (hF s).2.1
        have g2 : ∀ s, (F s).cell? ⟨ad, 2, none⟩ = some (.int .i64 b.bv) := fun s => (hF s).2.2
        have HFC := Lib.hid hFC
        clear hF hFC
        refine wp_region_ord (fun j => j == 10 || j == 11) 12 [0, 1, 2, 3, 4, 5, 6, 7, 8, 9, 10, 11] (pushC W FB 2 vf fl (k, b.bv) _) (by kernel_rfl) (by kernel_rfl) (H1.up3.drawn _) ?_
        repeat (refine gWalk_val (fun w' => ∃ s, w' = F s) rfl rfl rfl rfl (fun us w' h => by obtain ⟨X, h⟩ := h.owned; exact HFC.out _ ⟨h.assoc.drop.assoc.drop.assoc.cell 4 rfl, h.assoc.cell 1 rfl, h.assoc.cell 2 rfl⟩) (fun K hK => ?_); simp only [List.getElem_toArray, List.getElem_cons_zero, List.getElem_cons_succ]; go_big_quiet_op; refine hK _ ?_; clear hK K)
        refine gWalk_build (cs := #[.int .i64 k, .int .i64 b.bv]) (e := 32) rfl rfl rfl rfl (fun w => ?_) (fun gb => ?_)
        · simp only [List.getElem_toArray, List.getElem_cons_zero, List.getElem_cons_succ]
          go_simp
          rfl
        simp only [List.getElem_toArray, List.getElem_cons_zero, List.getElem_cons_succ, Act.put, List.setIfInBounds_toArray, List.set_cons_succ, List.set_cons_zero]
        refine gWalk_push (.tmp 81) (.tmp 86) 25 rfl rfl rfl rfl Try.eB FB_len FB_one rfl rfl (by omega) (by omega) (fun v' hv' => ?_)
        simp only [List.getElem_toArray, List.getElem_cons_zero, List.getElem_cons_succ, Act.put, List.setIfInBounds_toArray, List.set_cons_succ, List.set_cons_zero]
        rintro w2 ⟨_, H5⟩
        simp only [List.drop_succ_cons, List.drop_zero]
        have H6 := H5.up3
        have q0 := H6.cell 4 rfl
        have q1 := H6.free 4 rfl
        have H7 := Lib.hid H6
        obtain ⟨g', o', cap', rfl⟩ := hv'
        clear H5 H6
        go_wp2_with fail
        go_ret
        refine ⟨rfl, .slice (some ⟨g', o', none⟩) (fl.length + 1) cap', ?_⟩
        rw [show RB (askB vs.length k b v) tb = [.int .i64 b.own, .int .i64 k, .int .i64 b.bv, .int .i64 ((b.pr : Int) + 1), .bool true, .map (some tb)] from by simp only [RB, askB, best1, if_pos hm, if_neg (Int.not_lt.2 H1c.out), if_neg HZ.out]; try rfl, show askF vs.length k b v fl = fl ++ [(k, b.bv)] from by unfold askF; rw [if_pos hm]; simp only [RB, askB, best1, if_pos hm, if_neg (Int.not_lt.2 H1c.out), if_neg HZ.out]; try rfl]
        have H8 : Sat W _ (recS S (.slice (some ⟨g, o, none⟩) vs.length cap) mp vc (.slice (some ⟨g', o', none⟩) (fl.length + 1) cap') vch * _) := H7.out.set 4 _
        exact H8.cast (by ac_rfl)
    · have hm' : 2 * ((b.pr : Int) + 1) ≤ (vs.length : Int) := by omega
      go_enter Try.func10, Try.ntmps10
      go_wp2_with fail
      go_quiet (fail)
      go_wp2_with (go_at_call 12; (with_reducible refine (most_any (n := vs.length) (cap := cap) (a := some ⟨g, o, none⟩) (by omega) (by omega) ?_).mono ?_); (focus go_simp); rintro e w' ⟨rfl, rfl⟩)
      go_ret
      refine ⟨rfl, vf, ?_⟩
      rw [show RB (askB vs.length k b v) tb = [.int .i64 b.own, .int .i64 b.bn, .int .i64 b.bv, .int .i64 ((b.pr : Int) + 1), .bool b.fx, .map (some tb)] from by simp only [RB, askB, best1, if_neg hm, if_neg (Int.not_lt.2 H1c.out)]; try rfl, show askF vs.length k b v fl = fl from by unfold askF; rw [if_neg hm]]
      refine Sat.cast (P := Hp.rec_ ad [.int .i64 b.own, .int .i64 b.bn, .int .i64 b.bv, .int .i64 ((b.pr : Int) + 1), .bool b.fx, .map (some tb)] * (Hp.own FV 3 (.slice (some ⟨g, o, none⟩) vs.length cap) (vs.set i { v with pm := k }) * (recS S (.slice (some ⟨g, o, none⟩) vs.length cap) mp vc vf vch * (Hp.own FB 2 vf fl * R)))) ?_ (by ac_rfl)
      exact ((HQ.out _ HH.out).drewN _).set 3 _

end Go.Proofs.Ytbakeeempbadcaa
