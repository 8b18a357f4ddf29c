/- What a step does. The walks. No condition. -/
import Derived.Test.YtgnpngiecnkfiaaA1
namespace Go.Proofs.Ytgnpngiecnkfiaa
open Go.RowKit
set_option linter.unusedVariables false
set_option linter.unusedSimpArgs false
set_option maxRecDepth 100000

abbrev qAt (S : Nat) (pv : Value) (mc ma : Nat) (ps : List Pr) (ca an : Cn) (dn_ : Bool) (R : Hp) : Hp :=
  Hp.rec_ S [pv, .map (some mc), .map (some ma), .bool dn_] * (Hp.own FP 4 pv ps * (mapN mc ca * (mapN ma an * R)))
structure Rooms (ca an : Cn) (x : Pr) : Prop where
  c : ca.length ≤ 1000
  a : an.length ≤ 1000
  cc : ∀ k, cnt ca k ≤ 1000
  aa : ∀ k, cnt an k ≤ 1000
  lo : -1000 ≤ x.owes
  hi : x.owes ≤ 1000
theorem send_hold {W w : World} {S : Nat} {pv : Value} {mc ma : Nat} {ps : List Pr} {ca an : Cn} {dn_ : Bool} {R : Hp} {i j : Sm} {x : Pr} (hx : ps[i.val]? = some x) (rm : Rooms ca an x) (hworks : x.works = false) (H : Sat W w (qAt S pv mc ma ps ca an dn_ R)) :
    Calls Try.prog 11 #[ptr S 0, .agg #[.int .i64 1, .int .i64 ((i.val : Nat) : Int), .int .i64 ((j.val : Nat) : Int)]] w (Ret W fun v l => v = .int .i64 6 ∧ sep l = qAt S pv mc ma ps ca an dn_ R) := by
  refine Gx.enter (l := [Hp.rec_ S [pv, .map (some mc), .map (some ma), .bool dn_], Hp.own FP 4 pv ps, Hp.map Try.prog 45 pairL vN mc ca, Hp.map Try.prog 45 pairL vN ma an, R]) Try.func11 rfl Try.ntmps11 rfl (H.frame4) ?_
  refine Gx.know (m' := [(0, ptr S 0), (1, .agg #[.int .i64 1, .int .i64 ((i.val : Nat) : Int), .int .i64 ((j.val : Nat) : Int)])]) (.cons rfl (.cons rfl .nil)) ?_
  have r1 := rm.c
  have r2 := rm.a
  have r3 := rm.lo
  have r4 := rm.hi
  refine Gx.seq ?_
  refine Gx.region ?_
  refine Gx.eff rfl rfl rfl (eff_box rfl rfl (vs := [.int .i64 1, .int .i64 ((i.val : Nat) : Int), .int .i64 ((j.val : Nat) : Int)]) rfl) ?_
  rintro _ _ ⟨b1, rfl, rfl⟩
  refine Gx.val rfl rfl rfl (val_assign rfl rfl) ?_
  refine Gx.done ?_
  refine Gx.thenN ?_
  refine Gx.seq ?_
  refine Gx.regionQ Try.mixed (by kernel_rfl) ?_
  refine Gq.val rfl rfl rfl (val_move rfl rfl) ?_
  refine Gq.val rfl rfl rfl (val_nilCheck rfl rfl) ?_
  refine Gq.val rfl rfl rfl (Val.cast (val_fieldAddr rfl Try.underlying39 rfl Try.ty36 rfl rfl) (v' := ptr S 0) rfl) ?_
  refine Gq.val rfl rfl rfl (val_load rfl Try.ty36 rfl rfl (cell_rec (k := 1) rfl rfl)) ?_
  refine Gq.val rfl rfl rfl (Val.cast (val_fieldAddr rfl Try.underlying32 rfl Try.ty3 rfl rfl) (v' := ptr b1 1) rfl) ?_
  refine Gq.val rfl rfl rfl (val_load rfl Try.ty3 rfl rfl (cell_rec (k := 0) rfl rfl)) ?_
  refine Gq.val rfl rfl rfl (val_ixa rfl Try.underlying36 Try.ty41 rfl rfl (j := i.val) (rfl) (reach_own (k := 2) rfl hx)) ?_
  refine Gq.val rfl rfl rfl (val_assign rfl rfl) ?_
  refine Gq.done ?_
  refine Gx.thenN ?_
  refine Gx.seq ?_
  -- region 2, in whatever order
  refine Gx.ones 4 (Gx.norm (l' := [Hp.rec_ b1 [.int .i64 1, .int .i64 ((i.val : Nat) : Int), .int .i64 ((j.val : Nat) : Int)], Hp.rec_ S [pv, .map (some mc), .map (some ma), .bool dn_], Hp.own FP 4 pv ps, Hp.map Try.prog 45 pairL vN mc ca, Hp.map Try.prog 45 pairL vN ma an, R, 1, 1, 1, 1]) rfl ?_)
  obtain ⟨pp2x6, pp2x6e⟩ : ∃ p : Done → Hp, p = fun d => cond (dn d 12) (Hp.rec_ (pB (dv d 10)) [.int .i64 ((j.val : Nat) : Int), .int .i64 ((i.val : Nat) : Int)]) (cond (dn d 10) (Hp.rec_ (pB (dv d 10)) [.int .i64 0, .int .i64 0]) (1)) := ⟨_, rfl⟩
  obtain ⟨pp2x7, pp2x7e⟩ : ∃ p : Done → Hp, p = fun d => cond (dn d 13) (Hp.rec_ (pB (dv d 11)) [.int .i64 ((i.val : Nat) : Int), .int .i64 ((j.val : Nat) : Int)]) (cond (dn d 11) (Hp.rec_ (pB (dv d 11)) [.int .i64 0, .int .i64 0]) (1)) := ⟨_, rfl⟩
  obtain ⟨pp2x8, pp2x8e⟩ : ∃ p : Done → Hp, p = fun d => cond (dn d 10) (Hp.pure (dv d 10 = ptr (pB (dv d 10)) 0)) 1 := ⟨_, rfl⟩
  obtain ⟨pp2x9, pp2x9e⟩ : ∃ p : Done → Hp, p = fun d => cond (dn d 11) (Hp.pure (dv d 11 = ptr (pB (dv d 11)) 0)) 1 := ⟨_, rfl⟩
  refine Gx.regionF [10, 11, 12, 13] [0, 1, 2, 3, 4, 5, 6, 7, 8, 9] (fun ιi => cond (Nat.beq ιi 8) [Hp.rec_ b1 [.int .i64 1, .int .i64 ((i.val : Nat) : Int), .int .i64 ((j.val : Nat) : Int)]] (cond (Nat.beq ιi 6) [Hp.rec_ b1 [.int .i64 1, .int .i64 ((i.val : Nat) : Int), .int .i64 ((j.val : Nat) : Int)]] (cond (Nat.beq ιi 3) [Hp.rec_ b1 [.int .i64 1, .int .i64 ((i.val : Nat) : Int), .int .i64 ((j.val : Nat) : Int)]] (cond (Nat.beq ιi 1) [Hp.rec_ b1 [.int .i64 1, .int .i64 ((i.val : Nat) : Int), .int .i64 ((j.val : Nat) : Int)]] ([]))))) (fun d => [Hp.rec_ b1 [.int .i64 1, .int .i64 ((i.val : Nat) : Int), .int .i64 ((j.val : Nat) : Int)], Hp.rec_ S [pv, .map (some mc), .map (some ma), .bool dn_], Hp.own FP 4 pv ps, Hp.map Try.prog 45 pairL vN mc ca, Hp.map Try.prog 45 pairL vN ma an, R, pp2x6 d, pp2x7 d, pp2x8 d, pp2x9 d]) Try.mixed (by kernel_rfl) (by kernel_rfl) (by rw [pp2x6e]; rw [pp2x7e]; rw [pp2x8e]; rw [pp2x9e]; rfl) ?_ ?_
  · intro ιi d w hc hs H
    by_cases hn1 : ιi = 1
    · subst hn1
      exact H.only (k := 0) rfl rfl
    · by_cases hn3 : ιi = 3
      · subst hn3
        exact H.only (k := 0) rfl rfl
      · by_cases hn6 : ιi = 6
        · subst hn6
          exact H.only (k := 0) rfl rfl
        · by_cases hn8 : ιi = 8
          · subst hn8
            exact H.only (k := 0) rfl rfl
          · refine Sat.listed (l := []) H.noneL ?_
            simp only [beq_no hn1, beq_no hn3, beq_no hn6, beq_no hn8, cond_false]
  refine Gp.val rfl rfl rfl rfl (Val.cast (val_fieldAddr rfl Try.underlying32 rfl Try.ty3 rfl rfl) (v' := ptr b1 2) rfl) ?_
  refine Gp.val rfl rfl rfl rfl (val_load rfl Try.ty3 rfl rfl (cell_rec (k := 0) rfl rfl)) ?_
  refine Gp.val rfl rfl rfl rfl (Val.cast (val_fieldAddr rfl Try.underlying32 rfl Try.ty3 rfl rfl) (v' := ptr b1 1) rfl) ?_
  refine Gp.val rfl rfl rfl rfl (val_load rfl Try.ty3 rfl rfl (cell_rec (k := 0) rfl rfl)) ?_
  refine Gp.val rfl rfl rfl rfl (val_build rfl (qs := [(0, .int .i64 ((j.val : Nat) : Int)), (1, .int .i64 ((i.val : Nat) : Int))]) rfl rfl (fun w => by go_simp) (v := .agg #[.int .i64 ((j.val : Nat) : Int), .int .i64 ((i.val : Nat) : Int)])) ?_
  refine Gp.val rfl rfl rfl rfl (Val.cast (val_fieldAddr rfl Try.underlying32 rfl Try.ty3 rfl rfl) (v' := ptr b1 1) rfl) ?_
  refine Gp.val rfl rfl rfl rfl (val_load rfl Try.ty3 rfl rfl (cell_rec (k := 0) rfl rfl)) ?_
  refine Gp.val rfl rfl rfl rfl (Val.cast (val_fieldAddr rfl Try.underlying32 rfl Try.ty3 rfl rfl) (v' := ptr b1 2) rfl) ?_
  refine Gp.val rfl rfl rfl rfl (val_load rfl Try.ty3 rfl rfl (cell_rec (k := 0) rfl rfl)) ?_
  refine Gp.val rfl rfl rfl rfl (val_build rfl (qs := [(0, .int .i64 ((i.val : Nat) : Int)), (1, .int .i64 ((j.val : Nat) : Int))]) rfl rfl (fun w => by go_simp) (v := .agg #[.int .i64 ((i.val : Nat) : Int), .int .i64 ((j.val : Nat) : Int)])) ?_
  refine Gp.done (uniq_of (by kernel_rfl)) (by rfl) (by kernel_rfl) ⟨⟨_, rfl, ?_⟩, ⟨_, rfl, ?_⟩, ⟨_, rfl, ?_⟩, ⟨_, rfl, ?_⟩, trivial⟩ ?_
  · intro d hc hdi hpre a w hf H
    change Sat _ _ (sep [Hp.rec_ b1 [.int .i64 1, .int .i64 ((i.val : Nat) : Int), .int .i64 ((j.val : Nat) : Int)], Hp.rec_ S [pv, .map (some mc), .map (some ma), .bool dn_], Hp.own FP 4 pv ps, Hp.map Try.prog 45 pairL vN mc ca, Hp.map Try.prog 45 pairL vN ma an, R, pp2x6 d, pp2x7 d, pp2x8 d, pp2x9 d]) at H
    have q10 := hdi
    have q12 : dn d 12 = false := hc.not 12 10 rfl (by kernel_rfl) q10
    have q13 : dn d 13 = false := hc.not 13 10 rfl (by kernel_rfl) q10
    have n6 : pp2x6 d = 1 := by rw [pp2x6e]; simp only [q10, q12, cond_true, cond_false]
    have n8 : pp2x8 d = 1 := by rw [pp2x8e]; simp only [q10, cond_true, cond_false]
    rw [n6, n8] at H
    refine EffAt.mono (Eff.at_ hf.slots H (eff_alloc rfl Try.ty45 (vs := [.int .i64 0, .int .i64 0]) rfl)) ?_
    rintro _ w2 ⟨_, ⟨b3, rfl, rfl⟩, H2⟩
    have H2 := Sat.fillAt H2 (k := 6) rfl
    have H2 := (Sat.pureI (p := ptr b3 0 = ptr b3 0) rfl H2).fillAt (k := 8) rfl
    obtain ⟨d2, hd2⟩ : ∃ d2, d2 = upd d 10 (ptr b3 0) := ⟨_, rfl⟩
    have m10 : dn d2 10 = true := by rw [hd2]; rfl
    have m12 : dn d2 12 = false := by rw [hd2]; exact q12
    have m13 : dn d2 13 = false := by rw [hd2]; exact q13
    rw [← hd2]
    change Sat _ _ (sep [Hp.rec_ b1 [.int .i64 1, .int .i64 ((i.val : Nat) : Int), .int .i64 ((j.val : Nat) : Int)], Hp.rec_ S [pv, .map (some mc), .map (some ma), .bool dn_], Hp.own FP 4 pv ps, Hp.map Try.prog 45 pairL vN mc ca, Hp.map Try.prog 45 pairL vN ma an, R, pp2x6 d2, pp2x7 d2, pp2x8 d2, pp2x9 d2])
    have u6 := congrFun pp2x6e d2
    simp only [m10, m12, cond_true, cond_false] at u6
    have u7 : pp2x7 d2 = pp2x7 d := by rw [hd2, pp2x7e]; rfl
    have u8 := congrFun pp2x8e d2
    simp only [m10, cond_true, cond_false] at u8
    have u9 : pp2x9 d2 = pp2x9 d := by rw [hd2, pp2x9e]; rfl
    rw [u6, u7, u8, u9]
    subst hd2
    exact H2
  · intro d hc hdi hpre a w hf H
    change Sat _ _ (sep [Hp.rec_ b1 [.int .i64 1, .int .i64 ((i.val : Nat) : Int), .int .i64 ((j.val : Nat) : Int)], Hp.rec_ S [pv, .map (some mc), .map (some ma), .bool dn_], Hp.own FP 4 pv ps, Hp.map Try.prog 45 pairL vN mc ca, Hp.map Try.prog 45 pairL vN ma an, R, pp2x6 d, pp2x7 d, pp2x8 d, pp2x9 d]) at H
    have q11 := hdi
    have q12 : dn d 12 = false := hc.not 12 11 rfl (by kernel_rfl) q11
    have q13 : dn d 13 = false := hc.not 13 11 rfl (by kernel_rfl) q11
    have n7 : pp2x7 d = 1 := by rw [pp2x7e]; simp only [q11, q13, cond_true, cond_false]
    have n9 : pp2x9 d = 1 := by rw [pp2x9e]; simp only [q11, cond_true, cond_false]
    rw [n7, n9] at H
    refine EffAt.mono (Eff.at_ hf.slots H (eff_alloc rfl Try.ty45 (vs := [.int .i64 0, .int .i64 0]) rfl)) ?_
    rintro _ w2 ⟨_, ⟨b4, rfl, rfl⟩, H2⟩
    have H2 := Sat.fillAt H2 (k := 7) rfl
    have H2 := (Sat.pureI (p := ptr b4 0 = ptr b4 0) rfl H2).fillAt (k := 9) rfl
    obtain ⟨d2, hd2⟩ : ∃ d2, d2 = upd d 11 (ptr b4 0) := ⟨_, rfl⟩
    have m11 : dn d2 11 = true := by rw [hd2]; rfl
    have m12 : dn d2 12 = false := by rw [hd2]; exact q12
    have m13 : dn d2 13 = false := by rw [hd2]; exact q13
    rw [← hd2]
    change Sat _ _ (sep [Hp.rec_ b1 [.int .i64 1, .int .i64 ((i.val : Nat) : Int), .int .i64 ((j.val : Nat) : Int)], Hp.rec_ S [pv, .map (some mc), .map (some ma), .bool dn_], Hp.own FP 4 pv ps, Hp.map Try.prog 45 pairL vN mc ca, Hp.map Try.prog 45 pairL vN ma an, R, pp2x6 d2, pp2x7 d2, pp2x8 d2, pp2x9 d2])
    have u6 : pp2x6 d2 = pp2x6 d := by rw [hd2, pp2x6e]; rfl
    have u7 := congrFun pp2x7e d2
    simp only [m11, m13, cond_true, cond_false] at u7
    have u8 : pp2x8 d2 = pp2x8 d := by rw [hd2, pp2x8e]; rfl
    have u9 := congrFun pp2x9e d2
    simp only [m11, cond_true, cond_false] at u9
    rw [u6, u7, u8, u9]
    subst hd2
    exact H2
  · intro d hc hdi hpre a w hf H
    change Sat _ _ (sep [Hp.rec_ b1 [.int .i64 1, .int .i64 ((i.val : Nat) : Int), .int .i64 ((j.val : Nat) : Int)], Hp.rec_ S [pv, .map (some mc), .map (some ma), .bool dn_], Hp.own FP 4 pv ps, Hp.map Try.prog 45 pairL vN mc ca, Hp.map Try.prog 45 pairL vN ma an, R, pp2x6 d, pp2x7 d, pp2x8 d, pp2x9 d]) at H
    have q10 : dn d 10 = true := hpre 10 (by kernel_rfl)
    have q10 : dn d 10 = true := hpre 10 (by kernel_rfl)
    have q11 : dn d 11 = true := hpre 11 (by kernel_rfl)
    have q12 := hdi
    have q13 : dn d 13 = false := hc.not 13 12 rfl (by kernel_rfl) q12
    have e10 : dv d 10 = ptr (pB (dv d 10)) 0 := H.factAt (k := 8) rfl (by rw [pp2x8e]; simp only [q10, cond_true])
    have e11 : dv d 11 = ptr (pB (dv d 11)) 0 := H.factAt (k := 9) rfl (by rw [pp2x9e]; simp only [q11, cond_true])
    have n6 : pp2x6 d = Hp.rec_ (pB (dv d 10)) [.int .i64 0, .int .i64 0] := by rw [pp2x6e]; simp only [q10, q12, cond_true, cond_false]
    have n7 : pp2x7 d = Hp.rec_ (pB (dv d 11)) [.int .i64 0, .int .i64 0] := by rw [pp2x7e]; simp only [q11, q13, cond_true, cond_false]
    rw [n6, n7] at H
    have s10 := hf.add hf.slots 10 rfl (by kernel_rfl) rfl q10 (v := ptr (pB (dv d 10)) 0) e10
    refine EffAt.mono (Eff.at_ s10 H (eff_store rfl Try.ty45 rfl rfl (us := [.int .i64 ((j.val : Nat) : Int), .int .i64 ((i.val : Nat) : Int)]) rfl rfl rfl (k := 6) rfl rfl (vs' := [.int .i64 ((j.val : Nat) : Int), .int .i64 ((i.val : Nat) : Int)]) rfl (l' := [Hp.rec_ b1 [.int .i64 1, .int .i64 ((i.val : Nat) : Int), .int .i64 ((j.val : Nat) : Int)], Hp.rec_ S [pv, .map (some mc), .map (some ma), .bool dn_], Hp.own FP 4 pv ps, Hp.map Try.prog 45 pairL vN mc ca, Hp.map Try.prog 45 pairL vN ma an, R, Hp.rec_ (pB (dv d 10)) [.int .i64 ((j.val : Nat) : Int), .int .i64 ((i.val : Nat) : Int)], Hp.rec_ (pB (dv d 11)) [.int .i64 0, .int .i64 0], pp2x8 d, pp2x9 d]) rfl)) ?_
    rintro v w2 ⟨_, rfl, H2⟩
    obtain ⟨d2, hd2⟩ : ∃ d2, d2 = upd d 12 v := ⟨_, rfl⟩
    have m12 : dn d2 12 = true := by rw [hd2]; rfl
    have m10 : dn d2 10 = true := by rw [hd2]; exact q10
    have m11 : dn d2 11 = true := by rw [hd2]; exact q11
    have m13 : dn d2 13 = false := by rw [hd2]; exact q13
    rw [← hd2]
    change Sat _ _ (sep [Hp.rec_ b1 [.int .i64 1, .int .i64 ((i.val : Nat) : Int), .int .i64 ((j.val : Nat) : Int)], Hp.rec_ S [pv, .map (some mc), .map (some ma), .bool dn_], Hp.own FP 4 pv ps, Hp.map Try.prog 45 pairL vN mc ca, Hp.map Try.prog 45 pairL vN ma an, R, pp2x6 d2, pp2x7 d2, pp2x8 d2, pp2x9 d2])
    have u6 := congrFun pp2x6e d2
    simp only [m10, m12, cond_true, cond_false] at u6
    have u7 := congrFun pp2x7e d2
    simp only [m11, m13, cond_true, cond_false] at u7
    have u8 : pp2x8 d2 = pp2x8 d := by rw [hd2, pp2x8e]; rfl
    have u9 : pp2x9 d2 = pp2x9 d := by rw [hd2, pp2x9e]; rfl
    rw [u6, u7, u8, u9]
    subst hd2
    exact H2
  · intro d hc hdi hpre a w hf H
    change Sat _ _ (sep [Hp.rec_ b1 [.int .i64 1, .int .i64 ((i.val : Nat) : Int), .int .i64 ((j.val : Nat) : Int)], Hp.rec_ S [pv, .map (some mc), .map (some ma), .bool dn_], Hp.own FP 4 pv ps, Hp.map Try.prog 45 pairL vN mc ca, Hp.map Try.prog 45 pairL vN ma an, R, pp2x6 d, pp2x7 d, pp2x8 d, pp2x9 d]) at H
    have q11 : dn d 11 = true := hpre 11 (by kernel_rfl)
    have q12 : dn d 12 = true := hpre 12 (by kernel_rfl)
    have q10 : dn d 10 = true := hpre 10 (by kernel_rfl)
    have q11 : dn d 11 = true := hpre 11 (by kernel_rfl)
    have q12 : dn d 12 = true := hpre 12 (by kernel_rfl)
    have q13 := hdi
    have e11 : dv d 11 = ptr (pB (dv d 11)) 0 := H.factAt (k := 9) rfl (by rw [pp2x9e]; simp only [q11, cond_true])
    have e10 : dv d 10 = ptr (pB (dv d 10)) 0 := H.factAt (k := 8) rfl (by rw [pp2x8e]; simp only [q10, cond_true])
    have n6 : pp2x6 d = Hp.rec_ (pB (dv d 10)) [.int .i64 ((j.val : Nat) : Int), .int .i64 ((i.val : Nat) : Int)] := by rw [pp2x6e]; simp only [q10, q12, cond_true, cond_false]
    have n7 : pp2x7 d = Hp.rec_ (pB (dv d 11)) [.int .i64 0, .int .i64 0] := by rw [pp2x7e]; simp only [q11, q13, cond_true, cond_false]
    rw [n6, n7] at H
    have s11 := hf.add hf.slots 11 rfl (by kernel_rfl) rfl q11 (v := ptr (pB (dv d 11)) 0) e11
    refine EffAt.mono (Eff.at_ s11 H (eff_store rfl Try.ty45 rfl rfl (us := [.int .i64 ((i.val : Nat) : Int), .int .i64 ((j.val : Nat) : Int)]) rfl rfl rfl (k := 7) rfl rfl (vs' := [.int .i64 ((i.val : Nat) : Int), .int .i64 ((j.val : Nat) : Int)]) rfl (l' := [Hp.rec_ b1 [.int .i64 1, .int .i64 ((i.val : Nat) : Int), .int .i64 ((j.val : Nat) : Int)], Hp.rec_ S [pv, .map (some mc), .map (some ma), .bool dn_], Hp.own FP 4 pv ps, Hp.map Try.prog 45 pairL vN mc ca, Hp.map Try.prog 45 pairL vN ma an, R, Hp.rec_ (pB (dv d 10)) [.int .i64 ((j.val : Nat) : Int), .int .i64 ((i.val : Nat) : Int)], Hp.rec_ (pB (dv d 11)) [.int .i64 ((i.val : Nat) : Int), .int .i64 ((j.val : Nat) : Int)], pp2x8 d, pp2x9 d]) rfl)) ?_
    rintro v w2 ⟨_, rfl, H2⟩
    obtain ⟨d2, hd2⟩ : ∃ d2, d2 = upd d 13 v := ⟨_, rfl⟩
    have m13 : dn d2 13 = true := by rw [hd2]; rfl
    have m11 : dn d2 11 = true := by rw [hd2]; exact q11
    have m12 : dn d2 12 = true := by rw [hd2]; exact q12
    have m10 : dn d2 10 = true := by rw [hd2]; exact q10
    rw [← hd2]
    change Sat _ _ (sep [Hp.rec_ b1 [.int .i64 1, .int .i64 ((i.val : Nat) : Int), .int .i64 ((j.val : Nat) : Int)], Hp.rec_ S [pv, .map (some mc), .map (some ma), .bool dn_], Hp.own FP 4 pv ps, Hp.map Try.prog 45 pairL vN mc ca, Hp.map Try.prog 45 pairL vN ma an, R, pp2x6 d2, pp2x7 d2, pp2x8 d2, pp2x9 d2])
    have u6 := congrFun pp2x6e d2
    simp only [m10, m12, cond_true, cond_false] at u6
    have u7 := congrFun pp2x7e d2
    simp only [m11, m13, cond_true, cond_false] at u7
    have u8 : pp2x8 d2 = pp2x8 d := by rw [hd2, pp2x8e]; rfl
    have u9 : pp2x9 d2 = pp2x9 d := by rw [hd2, pp2x9e]; rfl
    rw [u6, u7, u8, u9]
    subst hd2
    exact H2
  · intro d hc hall a hf w H
    change Sat _ _ (sep [Hp.rec_ b1 [.int .i64 1, .int .i64 ((i.val : Nat) : Int), .int .i64 ((j.val : Nat) : Int)], Hp.rec_ S [pv, .map (some mc), .map (some ma), .bool dn_], Hp.own FP 4 pv ps, Hp.map Try.prog 45 pairL vN mc ca, Hp.map Try.prog 45 pairL vN ma an, R, pp2x6 d, pp2x7 d, pp2x8 d, pp2x9 d]) at H
    have q10 : dn d 10 = true := hall 10 rfl
    have q11 : dn d 11 = true := hall 11 rfl
    have q12 : dn d 12 = true := hall 12 rfl
    have q13 : dn d 13 = true := hall 13 rfl
    have e10 : dv d 10 = ptr (pB (dv d 10)) 0 := H.factAt (k := 8) rfl (by rw [pp2x8e]; simp only [q10, cond_true])
    have e11 : dv d 11 = ptr (pB (dv d 11)) 0 := H.factAt (k := 9) rfl (by rw [pp2x9e]; simp only [q11, cond_true])
    have n6 : pp2x6 d = Hp.rec_ (pB (dv d 10)) [.int .i64 ((j.val : Nat) : Int), .int .i64 ((i.val : Nat) : Int)] := by rw [pp2x6e]; simp only [q10, q12, cond_true, cond_false]
    have n7 : pp2x7 d = Hp.rec_ (pB (dv d 11)) [.int .i64 ((i.val : Nat) : Int), .int .i64 ((j.val : Nat) : Int)] := by rw [pp2x7e]; simp only [q11, q13, cond_true, cond_false]
    have n8 : pp2x8 d = Hp.pure (dv d 10 = ptr (pB (dv d 10)) 0) := by rw [pp2x8e]; simp only [q10, cond_true]
    have n9 : pp2x9 d = Hp.pure (dv d 11 = ptr (pB (dv d 11)) 0) := by rw [pp2x9e]; simp only [q11, cond_true]
    rw [n6, n7, n8, n9] at H
    clear n6 n7 n8 n9
    obtain ⟨z5, hz5⟩ : ∃ b, b = pB (dv d 10) := ⟨_, rfl⟩
    rw [← hz5] at e10 H
    have s10 := hf.add hf.slots 10 rfl rfl rfl q10 (v := ptr z5 0) e10
    obtain ⟨z6, hz6⟩ : ∃ b, b = pB (dv d 11) := ⟨_, rfl⟩
    rw [← hz6] at e11 H
    have s11 := hf.add s10 11 rfl rfl rfl q11 (v := ptr z6 0) e11
    refine Gx.use s11 H ?_
    refine Gx.drop 9 rfl ?_
    refine Gx.drop 8 rfl ?_
    refine Gx.norm (l' := [Hp.rec_ b1 [.int .i64 1, .int .i64 ((i.val : Nat) : Int), .int .i64 ((j.val : Nat) : Int)], Hp.rec_ S [pv, .map (some mc), .map (some ma), .bool dn_], Hp.own FP 4 pv ps, Hp.map Try.prog 45 pairL vN mc ca, Hp.map Try.prog 45 pairL vN ma an, R, Hp.rec_ z5 [.int .i64 ((j.val : Nat) : Int), .int .i64 ((i.val : Nat) : Int)], Hp.rec_ z6 [.int .i64 ((i.val : Nat) : Int), .int .i64 ((j.val : Nat) : Int)]]) rfl ?_
    refine Gx.thenN ?_
    refine Gx.seq ?_
    refine Gx.seq ?_
    refine Gx.region ?_
    refine Gx.val rfl rfl rfl (Val.cast (val_fieldAddr rfl Try.underlying32 rfl Try.ty3 rfl rfl) (v' := ptr b1 0) rfl) ?_
    refine Gx.val rfl rfl rfl (val_load rfl Try.ty3 rfl rfl (cell_rec (k := 0) rfl rfl)) ?_
    refine Gx.done ?_
    refine Gx.thenN ?_
    refine Gx.block ?_
    refine Gx.seq ?_
    refine Gx.seq ?_
    refine Gx.region ?_
    refine Gx.val rfl rfl rfl (Val.cast (val_eql rfl rfl rfl) (v' := .bool true) rfl) ?_
    refine Gx.val rfl rfl rfl (val_assign rfl rfl) ?_
    refine Gx.done ?_
    refine Gx.thenN ?_
    refine Gx.t rfl ?_
    refine Gx.skip ?_
    refine Gx.thenN ?_
    refine Gx.t rfl ?_
    refine Gx.seq ?_
    refine Gx.seq ?_
    refine Gx.region ?_
    refine Gx.val rfl rfl rfl (val_move rfl rfl) ?_
    refine Gx.val rfl rfl rfl (val_nilCheck rfl rfl) ?_
    refine Gx.val rfl rfl rfl (Val.cast (val_fieldAddr rfl Try.underlying41 rfl Try.ty4 rfl rfl) (v' := ptr (sB pv) (sO pv + i.val * 4)) rfl) ?_
    refine Gx.val rfl rfl rfl (val_load rfl Try.ty4 rfl rfl (cell_own (i := 0) (k := 2) rfl hx rfl)) ?_
    refine Gx.val rfl rfl rfl (val_not rfl rfl) ?_
    refine Gx.done ?_
    refine Gx.thenN ?_
    refine Gx.boolT rfl (by rw [hworks]; rfl) ?_
    refine Gx.seq ?_
    refine Gx.region ?_
    refine Gx.val rfl rfl rfl (val_assign rfl rfl) ?_
    refine Gx.done ?_
    refine Gx.thenN ?_
    refine Gx.ret ?_
    refine Gx.thenR ?_
    refine Gx.blkR ?_
    refine Gx.thenR ?_
    refine Gx.drop 7 rfl ?_
    refine Gx.drop 6 rfl ?_
    refine Gx.drop 0 rfl ?_
    refine Gx.ret1 Try.results11 rfl ?_
    exact ⟨rfl, sep4 _ _ _ _ _⟩

theorem send_ok {W w : World} {S : Nat} {pv : Value} {mc ma : Nat} {ps : List Pr} {ca an : Cn} {dn_ : Bool} {R : Hp} {i j : Sm} {x : Pr} (hx : ps[i.val]? = some x) (rm : Rooms ca an x) (hworks : x.works = true) (H : Sat W w (qAt S pv mc ma ps ca an dn_ R)) :
    Calls Try.prog 11 #[ptr S 0, .agg #[.int .i64 1, .int .i64 ((i.val : Nat) : Int), .int .i64 ((j.val : Nat) : Int)]] w (Ret W fun v l => v = .int .i64 0 ∧ sep l = qAt S pv mc ma (ps.set i.val (⟨x.works, x.bound, x.to, (x.owes + 1)⟩ : Pr)) (inc ca (i, j)) an dn_ R) := by
  refine Gx.enter (l := [Hp.rec_ S [pv, .map (some mc), .map (some ma), .bool dn_], Hp.own FP 4 pv ps, Hp.map Try.prog 45 pairL vN mc ca, Hp.map Try.prog 45 pairL vN ma an, R]) Try.func11 rfl Try.ntmps11 rfl (H.frame4) ?_
  refine Gx.know (m' := [(0, ptr S 0), (1, .agg #[.int .i64 1, .int .i64 ((i.val : Nat) : Int), .int .i64 ((j.val : Nat) : Int)])]) (.cons rfl (.cons rfl .nil)) ?_
  have r1 := rm.c
  have r2 := rm.a
  have r3 := rm.lo
  have r4 := rm.hi
  refine Gx.seq ?_
  refine Gx.region ?_
  refine Gx.eff rfl rfl rfl (eff_box rfl rfl (vs := [.int .i64 1, .int .i64 ((i.val : Nat) : Int), .int .i64 ((j.val : Nat) : Int)]) rfl) ?_
  rintro _ _ ⟨b1, rfl, rfl⟩
  refine Gx.val rfl rfl rfl (val_assign rfl rfl) ?_
  refine Gx.done ?_
  refine Gx.thenN ?_
  refine Gx.seq ?_
  refine Gx.regionQ Try.mixed (by kernel_rfl) ?_
  refine Gq.val rfl rfl rfl (val_move rfl rfl) ?_
  refine Gq.val rfl rfl rfl (val_nilCheck rfl rfl) ?_
  refine Gq.val rfl rfl rfl (Val.cast (val_fieldAddr rfl Try.underlying39 rfl Try.ty36 rfl rfl) (v' := ptr S 0) rfl) ?_
  refine Gq.val rfl rfl rfl (val_load rfl Try.ty36 rfl rfl (cell_rec (k := 1) rfl rfl)) ?_
  refine Gq.val rfl rfl rfl (Val.cast (val_fieldAddr rfl Try.underlying32 rfl Try.ty3 rfl rfl) (v' := ptr b1 1) rfl) ?_
  refine Gq.val rfl rfl rfl (val_load rfl Try.ty3 rfl rfl (cell_rec (k := 0) rfl rfl)) ?_
  refine Gq.val rfl rfl rfl (val_ixa rfl Try.underlying36 Try.ty41 rfl rfl (j := i.val) (rfl) (reach_own (k := 2) rfl hx)) ?_
  refine Gq.val rfl rfl rfl (val_assign rfl rfl) ?_
  refine Gq.done ?_
  refine Gx.thenN ?_
  refine Gx.seq ?_
  -- region 2, in whatever order
  refine Gx.ones 4 (Gx.norm (l' := [Hp.rec_ b1 [.int .i64 1, .int .i64 ((i.val : Nat) : Int), .int .i64 ((j.val : Nat) : Int)], Hp.rec_ S [pv, .map (some mc), .map (some ma), .bool dn_], Hp.own FP 4 pv ps, Hp.map Try.prog 45 pairL vN mc ca, Hp.map Try.prog 45 pairL vN ma an, R, 1, 1, 1, 1]) rfl ?_)
  obtain ⟨pp2x6, pp2x6e⟩ : ∃ p : Done → Hp, p = fun d => cond (dn d 12) (Hp.rec_ (pB (dv d 10)) [.int .i64 ((j.val : Nat) : Int), .int .i64 ((i.val : Nat) : Int)]) (cond (dn d 10) (Hp.rec_ (pB (dv d 10)) [.int .i64 0, .int .i64 0]) (1)) := ⟨_, rfl⟩
  obtain ⟨pp2x7, pp2x7e⟩ : ∃ p : Done → Hp, p = fun d => cond (dn d 13) (Hp.rec_ (pB (dv d 11)) [.int .i64 ((i.val : Nat) : Int), .int .i64 ((j.val : Nat) : Int)]) (cond (dn d 11) (Hp.rec_ (pB (dv d 11)) [.int .i64 0, .int .i64 0]) (1)) := ⟨_, rfl⟩
  obtain ⟨pp2x8, pp2x8e⟩ : ∃ p : Done → Hp, p = fun d => cond (dn d 10) (Hp.pure (dv d 10 = ptr (pB (dv d 10)) 0)) 1 := ⟨_, rfl⟩
  obtain ⟨pp2x9, pp2x9e⟩ : ∃ p : Done → Hp, p = fun d => cond (dn d 11) (Hp.pure (dv d 11 = ptr (pB (dv d 11)) 0)) 1 := ⟨_, rfl⟩
  refine Gx.regionF [10, 11, 12, 13] [0, 1, 2, 3, 4, 5, 6, 7, 8, 9] (fun ιi => cond (Nat.beq ιi 8) [Hp.rec_ b1 [.int .i64 1, .int .i64 ((i.val : Nat) : Int), .int .i64 ((j.val : Nat) : Int)]] (cond (Nat.beq ιi 6) [Hp.rec_ b1 [.int .i64 1, .int .i64 ((i.val : Nat) : Int), .int .i64 ((j.val : Nat) : Int)]] (cond (Nat.beq ιi 3) [Hp.rec_ b1 [.int .i64 1, .int .i64 ((i.val : Nat) : Int), .int .i64 ((j.val : Nat) : Int)]] (cond (Nat.beq ιi 1) [Hp.rec_ b1 [.int .i64 1, .int .i64 ((i.val : Nat) : Int), .int .i64 ((j.val : Nat) : Int)]] ([]))))) (fun d => [Hp.rec_ b1 [.int .i64 1, .int .i64 ((i.val : Nat) : Int), .int .i64 ((j.val : Nat) : Int)], Hp.rec_ S [pv, .map (some mc), .map (some ma), .bool dn_], Hp.own FP 4 pv ps, Hp.map Try.prog 45 pairL vN mc ca, Hp.map Try.prog 45 pairL vN ma an, R, pp2x6 d, pp2x7 d, pp2x8 d, pp2x9 d]) Try.mixed (by kernel_rfl) (by kernel_rfl) (by rw [pp2x6e]; rw [pp2x7e]; rw [pp2x8e]; rw [pp2x9e]; rfl) ?_ ?_
  · intro ιi d w hc hs H
    by_cases hn1 : ιi = 1
    · subst hn1
      exact H.only (k := 0) rfl rfl
    · by_cases hn3 : ιi = 3
      · subst hn3
        exact H.only (k := 0) rfl rfl
      · by_cases hn6 : ιi = 6
        · subst hn6
          exact H.only (k := 0) rfl rfl
        · by_cases hn8 : ιi = 8
          · subst hn8
            exact H.only (k := 0) rfl rfl
          · refine Sat.listed (l := []) H.noneL ?_
            simp only [beq_no hn1, beq_no hn3, beq_no hn6, beq_no hn8, cond_false]
  refine Gp.val rfl rfl rfl rfl (Val.cast (val_fieldAddr rfl Try.underlying32 rfl Try.ty3 rfl rfl) (v' := ptr b1 2) rfl) ?_
  refine Gp.val rfl rfl rfl rfl (val_load rfl Try.ty3 rfl rfl (cell_rec (k := 0) rfl rfl)) ?_
  refine Gp.val rfl rfl rfl rfl (Val.cast (val_fieldAddr rfl Try.underlying32 rfl Try.ty3 rfl rfl) (v' := ptr b1 1) rfl) ?_
  refine Gp.val rfl rfl rfl rfl (val_load rfl Try.ty3 rfl rfl (cell_rec (k := 0) rfl rfl)) ?_
  refine Gp.val rfl rfl rfl rfl (val_build rfl (qs := [(0, .int .i64 ((j.val : Nat) : Int)), (1, .int .i64 ((i.val : Nat) : Int))]) rfl rfl (fun w => by go_simp) (v := .agg #[.int .i64 ((j.val : Nat) : Int), .int .i64 ((i.val : Nat) : Int)])) ?_
  refine Gp.val rfl rfl rfl rfl (Val.cast (val_fieldAddr rfl Try.underlying32 rfl Try.ty3 rfl rfl) (v' := ptr b1 1) rfl) ?_
  refine Gp.val rfl rfl rfl rfl (val_load rfl Try.ty3 rfl rfl (cell_rec (k := 0) rfl rfl)) ?_
  refine Gp.val rfl rfl rfl rfl (Val.cast (val_fieldAddr rfl Try.underlying32 rfl Try.ty3 rfl rfl) (v' := ptr b1 2) rfl) ?_
  refine Gp.val rfl rfl rfl rfl (val_load rfl Try.ty3 rfl rfl (cell_rec (k := 0) rfl rfl)) ?_
  refine Gp.val rfl rfl rfl rfl (val_build rfl (qs := [(0, .int .i64 ((i.val : Nat) : Int)), (1, .int .i64 ((j.val : Nat) : Int))]) rfl rfl (fun w => by go_simp) (v := .agg #[.int .i64 ((i.val : Nat) : Int), .int .i64 ((j.val : Nat) : Int)])) ?_
  refine Gp.done (uniq_of (by kernel_rfl)) (by rfl) (by kernel_rfl) ⟨⟨_, rfl, ?_⟩, ⟨_, rfl, ?_⟩, ⟨_, rfl, ?_⟩, ⟨_, rfl, ?_⟩, trivial⟩ ?_
  · intro d hc hdi hpre a w hf H
    change Sat _ _ (sep [Hp.rec_ b1 [.int .i64 1, .int .i64 ((i.val : Nat) : Int), .int .i64 ((j.val : Nat) : Int)], Hp.rec_ S [pv, .map (some mc), .map (some ma), .bool dn_], Hp.own FP 4 pv ps, Hp.map Try.prog 45 pairL vN mc ca, Hp.map Try.prog 45 pairL vN ma an, R, pp2x6 d, pp2x7 d, pp2x8 d, pp2x9 d]) at H
    have q10 := hdi
    have q12 : dn d 12 = false := hc.not 12 10 rfl (by kernel_rfl) q10
    have q13 : dn d 13 = false := hc.not 13 10 rfl (by kernel_rfl) q10
    have n6 : pp2x6 d = 1 := by rw [pp2x6e]; simp only [q10, q12, cond_true, cond_false]
    have n8 : pp2x8 d = 1 := by rw [pp2x8e]; simp only [q10, cond_true, cond_false]
    rw [n6, n8] at H
    refine EffAt.mono (Eff.at_ hf.slots H (eff_alloc rfl Try.ty45 (vs := [.int .i64 0, .int .i64 0]) rfl)) ?_
    rintro _ w2 ⟨_, ⟨b3, rfl, rfl⟩, H2⟩
    have H2 := Sat.fillAt H2 (k := 6) rfl
    have H2 := (Sat.pureI (p := ptr b3 0 = ptr b3 0) rfl H2).fillAt (k := 8) rfl
    obtain ⟨d2, hd2⟩ : ∃ d2, d2 = upd d 10 (ptr b3 0) := ⟨_, rfl⟩
    have m10 : dn d2 10 = true := by rw [hd2]; rfl
    have m12 : dn d2 12 = false := by rw [hd2]; exact q12
    have m13 : dn d2 13 = false := by rw [hd2]; exact q13
    rw [← hd2]
    change Sat _ _ (sep [Hp.rec_ b1 [.int .i64 1, .int .i64 ((i.val : Nat) : Int), .int .i64 ((j.val : Nat) : Int)], Hp.rec_ S [pv, .map (some mc), .map (some ma), .bool dn_], Hp.own FP 4 pv ps, Hp.map Try.prog 45 pairL vN mc ca, Hp.map Try.prog 45 pairL vN ma an, R, pp2x6 d2, pp2x7 d2, pp2x8 d2, pp2x9 d2])
    have u6 := congrFun pp2x6e d2
    simp only [m10, m12, cond_true, cond_false] at u6
    have u7 : pp2x7 d2 = pp2x7 d := by rw [hd2, pp2x7e]; rfl
    have u8 := congrFun pp2x8e d2
    simp only [m10, cond_true, cond_false] at u8
    have u9 : pp2x9 d2 = pp2x9 d := by rw [hd2, pp2x9e]; rfl
    rw [u6, u7, u8, u9]
    subst hd2
    exact H2
  · intro d hc hdi hpre a w hf H
    change Sat _ _ (sep [Hp.rec_ b1 [.int .i64 1, .int .i64 ((i.val : Nat) : Int), .int .i64 ((j.val : Nat) : Int)], Hp.rec_ S [pv, .map (some mc), .map (some ma), .bool dn_], Hp.own FP 4 pv ps, Hp.map Try.prog 45 pairL vN mc ca, Hp.map Try.prog 45 pairL vN ma an, R, pp2x6 d, pp2x7 d, pp2x8 d, pp2x9 d]) at H
    have q11 := hdi
    have q12 : dn d 12 = false := hc.not 12 11 rfl (by kernel_rfl) q11
    have q13 : dn d 13 = false := hc.not 13 11 rfl (by kernel_rfl) q11
    have n7 : pp2x7 d = 1 := by rw [pp2x7e]; simp only [q11, q13, cond_true, cond_false]
    have n9 : pp2x9 d = 1 := by rw [pp2x9e]; simp only [q11, cond_true, cond_false]
    rw [n7, n9] at H
    refine EffAt.mono (Eff.at_ hf.slots H (eff_alloc rfl Try.ty45 (vs := [.int .i64 0, .int .i64 0]) rfl)) ?_
    rintro _ w2 ⟨_, ⟨b4, rfl, rfl⟩, H2⟩
    have H2 := Sat.fillAt H2 (k := 7) rfl
    have H2 := (Sat.pureI (p := ptr b4 0 = ptr b4 0) rfl H2).fillAt (k := 9) rfl
    obtain ⟨d2, hd2⟩ : ∃ d2, d2 = upd d 11 (ptr b4 0) := ⟨_, rfl⟩
    have m11 : dn d2 11 = true := by rw [hd2]; rfl
    have m12 : dn d2 12 = false := by rw [hd2]; exact q12
    have m13 : dn d2 13 = false := by rw [hd2]; exact q13
    rw [← hd2]
    change Sat _ _ (sep [Hp.rec_ b1 [.int .i64 1, .int .i64 ((i.val : Nat) : Int), .int .i64 ((j.val : Nat) : Int)], Hp.rec_ S [pv, .map (some mc), .map (some ma), .bool dn_], Hp.own FP 4 pv ps, Hp.map Try.prog 45 pairL vN mc ca, Hp.map Try.prog 45 pairL vN ma an, R, pp2x6 d2, pp2x7 d2, pp2x8 d2, pp2x9 d2])
    have u6 : pp2x6 d2 = pp2x6 d := by rw [hd2, pp2x6e]; rfl
    have u7 := congrFun pp2x7e d2
    simp only [m11, m13, cond_true, cond_false] at u7
    have u8 : pp2x8 d2 = pp2x8 d := by rw [hd2, pp2x8e]; rfl
    have u9 := congrFun pp2x9e d2
    simp only [m11, cond_true, cond_false] at u9
    rw [u6, u7, u8, u9]
    subst hd2
    exact H2
  · intro d hc hdi hpre a w hf H
    change Sat _ _ (sep [Hp.rec_ b1 [.int .i64 1, .int .i64 ((i.val : Nat) : Int), .int .i64 ((j.val : Nat) : Int)], Hp.rec_ S [pv, .map (some mc), .map (some ma), .bool dn_], Hp.own FP 4 pv ps, Hp.map Try.prog 45 pairL vN mc ca, Hp.map Try.prog 45 pairL vN ma an, R, pp2x6 d, pp2x7 d, pp2x8 d, pp2x9 d]) at H
    have q10 : dn d 10 = true := hpre 10 (by kernel_rfl)
    have q10 : dn d 10 = true := hpre 10 (by kernel_rfl)
    have q11 : dn d 11 = true := hpre 11 (by kernel_rfl)
    have q12 := hdi
    have q13 : dn d 13 = false := hc.not 13 12 rfl (by kernel_rfl) q12
    have e10 : dv d 10 = ptr (pB (dv d 10)) 0 := H.factAt (k := 8) rfl (by rw [pp2x8e]; simp only [q10, cond_true])
    have e11 : dv d 11 = ptr (pB (dv d 11)) 0 := H.factAt (k := 9) rfl (by rw [pp2x9e]; simp only [q11, cond_true])
    have n6 : pp2x6 d = Hp.rec_ (pB (dv d 10)) [.int .i64 0, .int .i64 0] := by rw [pp2x6e]; simp only [q10, q12, cond_true, cond_false]
    have n7 : pp2x7 d = Hp.rec_ (pB (dv d 11)) [.int .i64 0, .int .i64 0] := by rw [pp2x7e]; simp only [q11, q13, cond_true, cond_false]
    rw [n6, n7] at H
    have s10 := hf.add hf.slots 10 rfl (by kernel_rfl) rfl q10 (v := ptr (pB (dv d 10)) 0) e10
    refine EffAt.mono (Eff.at_ s10 H (eff_store rfl Try.ty45 rfl rfl (us := [.int .i64 ((j.val : Nat) : Int), .int .i64 ((i.val : Nat) : Int)]) rfl rfl rfl (k := 6) rfl rfl (vs' := [.int .i64 ((j.val : Nat) : Int), .int .i64 ((i.val : Nat) : Int)]) rfl (l' := [Hp.rec_ b1 [.int .i64 1, .int .i64 ((i.val : Nat) : Int), .int .i64 ((j.val : Nat) : Int)], Hp.rec_ S [pv, .map (some mc), .map (some ma), .bool dn_], Hp.own FP 4 pv ps, Hp.map Try.prog 45 pairL vN mc ca, Hp.map Try.prog 45 pairL vN ma an, R, Hp.rec_ (pB (dv d 10)) [.int .i64 ((j.val : Nat) : Int), .int .i64 ((i.val : Nat) : Int)], Hp.rec_ (pB (dv d 11)) [.int .i64 0, .int .i64 0], pp2x8 d, pp2x9 d]) rfl)) ?_
    rintro v w2 ⟨_, rfl, H2⟩
    obtain ⟨d2, hd2⟩ : ∃ d2, d2 = upd d 12 v := ⟨_, rfl⟩
    have m12 : dn d2 12 = true := by rw [hd2]; rfl
    have m10 : dn d2 10 = true := by rw [hd2]; exact q10
    have m11 : dn d2 11 = true := by rw [hd2]; exact q11
    have m13 : dn d2 13 = false := by rw [hd2]; exact q13
    rw [← hd2]
    change Sat _ _ (sep [Hp.rec_ b1 [.int .i64 1, .int .i64 ((i.val : Nat) : Int), .int .i64 ((j.val : Nat) : Int)], Hp.rec_ S [pv, .map (some mc), .map (some ma), .bool dn_], Hp.own FP 4 pv ps, Hp.map Try.prog 45 pairL vN mc ca, Hp.map Try.prog 45 pairL vN ma an, R, pp2x6 d2, pp2x7 d2, pp2x8 d2, pp2x9 d2])
    have u6 := congrFun pp2x6e d2
    simp only [m10, m12, cond_true, cond_false] at u6
    have u7 := congrFun pp2x7e d2
    simp only [m11, m13, cond_true, cond_false] at u7
    have u8 : pp2x8 d2 = pp2x8 d := by rw [hd2, pp2x8e]; rfl
    have u9 : pp2x9 d2 = pp2x9 d := by rw [hd2, pp2x9e]; rfl
    rw [u6, u7, u8, u9]
    subst hd2
    exact H2
  · intro d hc hdi hpre a w hf H
    change Sat _ _ (sep [Hp.rec_ b1 [.int .i64 1, .int .i64 ((i.val : Nat) : Int), .int .i64 ((j.val : Nat) : Int)], Hp.rec_ S [pv, .map (some mc), .map (some ma), .bool dn_], Hp.own FP 4 pv ps, Hp.map Try.prog 45 pairL vN mc ca, Hp.map Try.prog 45 pairL vN ma an, R, pp2x6 d, pp2x7 d, pp2x8 d, pp2x9 d]) at H
    have q11 : dn d 11 = true := hpre 11 (by kernel_rfl)
    have q12 : dn d 12 = true := hpre 12 (by kernel_rfl)
    have q10 : dn d 10 = true := hpre 10 (by kernel_rfl)
    have q11 : dn d 11 = true := hpre 11 (by kernel_rfl)
    have q12 : dn d 12 = true := hpre 12 (by kernel_rfl)
    have q13 := hdi
    have e11 : dv d 11 = ptr (pB (dv d 11)) 0 := H.factAt (k := 9) rfl (by rw [pp2x9e]; simp only [q11, cond_true])
    have e10 : dv d 10 = ptr (pB (dv d 10)) 0 := H.factAt (k := 8) rfl (by rw [pp2x8e]; simp only [q10, cond_true])
    have n6 : pp2x6 d = Hp.rec_ (pB (dv d 10)) [.int .i64 ((j.val : Nat) : Int), .int .i64 ((i.val : Nat) : Int)] := by rw [pp2x6e]; simp only [q10, q12, cond_true, cond_false]
    have n7 : pp2x7 d = Hp.rec_ (pB (dv d 11)) [.int .i64 0, .int .i64 0] := by rw [pp2x7e]; simp only [q11, q13, cond_true, cond_false]
    rw [n6, n7] at H
    have s11 := hf.add hf.slots 11 rfl (by kernel_rfl) rfl q11 (v := ptr (pB (dv d 11)) 0) e11
    refine EffAt.mono (Eff.at_ s11 H (eff_store rfl Try.ty45 rfl rfl (us := [.int .i64 ((i.val : Nat) : Int), .int .i64 ((j.val : Nat) : Int)]) rfl rfl rfl (k := 7) rfl rfl (vs' := [.int .i64 ((i.val : Nat) : Int), .int .i64 ((j.val : Nat) : Int)]) rfl (l' := [Hp.rec_ b1 [.int .i64 1, .int .i64 ((i.val : Nat) : Int), .int .i64 ((j.val : Nat) : Int)], Hp.rec_ S [pv, .map (some mc), .map (some ma), .bool dn_], Hp.own FP 4 pv ps, Hp.map Try.prog 45 pairL vN mc ca, Hp.map Try.prog 45 pairL vN ma an, R, Hp.rec_ (pB (dv d 10)) [.int .i64 ((j.val : Nat) : Int), .int .i64 ((i.val : Nat) : Int)], Hp.rec_ (pB (dv d 11)) [.int .i64 ((i.val : Nat) : Int), .int .i64 ((j.val : Nat) : Int)], pp2x8 d, pp2x9 d]) rfl)) ?_
    rintro v w2 ⟨_, rfl, H2⟩
    obtain ⟨d2, hd2⟩ : ∃ d2, d2 = upd d 13 v := ⟨_, rfl⟩
    have m13 : dn d2 13 = true := by rw [hd2]; rfl
    have m11 : dn d2 11 = true := by rw [hd2]; exact q11
    have m12 : dn d2 12 = true := by rw [hd2]; exact q12
    have m10 : dn d2 10 = true := by rw [hd2]; exact q10
    rw [← hd2]
    change Sat _ _ (sep [Hp.rec_ b1 [.int .i64 1, .int .i64 ((i.val : Nat) : Int), .int .i64 ((j.val : Nat) : Int)], Hp.rec_ S [pv, .map (some mc), .map (some ma), .bool dn_], Hp.own FP 4 pv ps, Hp.map Try.prog 45 pairL vN mc ca, Hp.map Try.prog 45 pairL vN ma an, R, pp2x6 d2, pp2x7 d2, pp2x8 d2, pp2x9 d2])
    have u6 := congrFun pp2x6e d2
    simp only [m10, m12, cond_true, cond_false] at u6
    have u7 := congrFun pp2x7e d2
    simp only [m11, m13, cond_true, cond_false] at u7
    have u8 : pp2x8 d2 = pp2x8 d := by rw [hd2, pp2x8e]; rfl
    have u9 : pp2x9 d2 = pp2x9 d := by rw [hd2, pp2x9e]; rfl
    rw [u6, u7, u8, u9]
    subst hd2
    exact H2
  · intro d hc hall a hf w H
    change Sat _ _ (sep [Hp.rec_ b1 [.int .i64 1, .int .i64 ((i.val : Nat) : Int), .int .i64 ((j.val : Nat) : Int)], Hp.rec_ S [pv, .map (some mc), .map (some ma), .bool dn_], Hp.own FP 4 pv ps, Hp.map Try.prog 45 pairL vN mc ca, Hp.map Try.prog 45 pairL vN ma an, R, pp2x6 d, pp2x7 d, pp2x8 d, pp2x9 d]) at H
    have q10 : dn d 10 = true := hall 10 rfl
    have q11 : dn d 11 = true := hall 11 rfl
    have q12 : dn d 12 = true := hall 12 rfl
    have q13 : dn d 13 = true := hall 13 rfl
    have e10 : dv d 10 = ptr (pB (dv d 10)) 0 := H.factAt (k := 8) rfl (by rw [pp2x8e]; simp only [q10, cond_true])
    have e11 : dv d 11 = ptr (pB (dv d 11)) 0 := H.factAt (k := 9) rfl (by rw [pp2x9e]; simp only [q11, cond_true])
    have n6 : pp2x6 d = Hp.rec_ (pB (dv d 10)) [.int .i64 ((j.val : Nat) : Int), .int .i64 ((i.val : Nat) : Int)] := by rw [pp2x6e]; simp only [q10, q12, cond_true, cond_false]
    have n7 : pp2x7 d = Hp.rec_ (pB (dv d 11)) [.int .i64 ((i.val : Nat) : Int), .int .i64 ((j.val : Nat) : Int)] := by rw [pp2x7e]; simp only [q11, q13, cond_true, cond_false]
    have n8 : pp2x8 d = Hp.pure (dv d 10 = ptr (pB (dv d 10)) 0) := by rw [pp2x8e]; simp only [q10, cond_true]
    have n9 : pp2x9 d = Hp.pure (dv d 11 = ptr (pB (dv d 11)) 0) := by rw [pp2x9e]; simp only [q11, cond_true]
    rw [n6, n7, n8, n9] at H
    clear n6 n7 n8 n9
    obtain ⟨z5, hz5⟩ : ∃ b, b = pB (dv d 10) := ⟨_, rfl⟩
    rw [← hz5] at e10 H
    have s10 := hf.add hf.slots 10 rfl rfl rfl q10 (v := ptr z5 0) e10
    obtain ⟨z6, hz6⟩ : ∃ b, b = pB (dv d 11) := ⟨_, rfl⟩
    rw [← hz6] at e11 H
    have s11 := hf.add s10 11 rfl rfl rfl q11 (v := ptr z6 0) e11
    refine Gx.use s11 H ?_
    refine Gx.drop 9 rfl ?_
    refine Gx.drop 8 rfl ?_
    refine Gx.norm (l' := [Hp.rec_ b1 [.int .i64 1, .int .i64 ((i.val : Nat) : Int), .int .i64 ((j.val : Nat) : Int)], Hp.rec_ S [pv, .map (some mc), .map (some ma), .bool dn_], Hp.own FP 4 pv ps, Hp.map Try.prog 45 pairL vN mc ca, Hp.map Try.prog 45 pairL vN ma an, R, Hp.rec_ z5 [.int .i64 ((j.val : Nat) : Int), .int .i64 ((i.val : Nat) : Int)], Hp.rec_ z6 [.int .i64 ((i.val : Nat) : Int), .int .i64 ((j.val : Nat) : Int)]]) rfl ?_
    refine Gx.thenN ?_
    refine Gx.seq ?_
    refine Gx.seq ?_
    refine Gx.region ?_
    refine Gx.val rfl rfl rfl (Val.cast (val_fieldAddr rfl Try.underlying32 rfl Try.ty3 rfl rfl) (v' := ptr b1 0) rfl) ?_
    refine Gx.val rfl rfl rfl (val_load rfl Try.ty3 rfl rfl (cell_rec (k := 0) rfl rfl)) ?_
    refine Gx.done ?_
    refine Gx.thenN ?_
    refine Gx.block ?_
    refine Gx.seq ?_
    refine Gx.seq ?_
    refine Gx.region ?_
    refine Gx.val rfl rfl rfl (Val.cast (val_eql rfl rfl rfl) (v' := .bool true) rfl) ?_
    refine Gx.val rfl rfl rfl (val_assign rfl rfl) ?_
    refine Gx.done ?_
    refine Gx.thenN ?_
    refine Gx.t rfl ?_
    refine Gx.skip ?_
    refine Gx.thenN ?_
    refine Gx.t rfl ?_
    refine Gx.seq ?_
    refine Gx.seq ?_
    refine Gx.region ?_
    refine Gx.val rfl rfl rfl (val_move rfl rfl) ?_
    refine Gx.val rfl rfl rfl (val_nilCheck rfl rfl) ?_
    refine Gx.val rfl rfl rfl (Val.cast (val_fieldAddr rfl Try.underlying41 rfl Try.ty4 rfl rfl) (v' := ptr (sB pv) (sO pv + i.val * 4)) rfl) ?_
    refine Gx.val rfl rfl rfl (val_load rfl Try.ty4 rfl rfl (cell_own (i := 0) (k := 2) rfl hx rfl)) ?_
    refine Gx.val rfl rfl rfl (val_not rfl rfl) ?_
    refine Gx.done ?_
    refine Gx.thenN ?_
    refine Gx.boolF rfl (by rw [hworks]; rfl) ?_
    refine Gx.skip ?_
    refine Gx.thenN ?_
    refine Gx.seq ?_
    refine Gx.seq ?_
    refine Gx.region ?_
    refine Gx.val rfl rfl rfl (Val.cast (val_fieldAddr rfl Try.underlying32 rfl Try.ty3 rfl rfl) (v' := ptr b1 0) rfl) ?_
    refine Gx.val rfl rfl rfl (val_load rfl Try.ty3 rfl rfl (cell_rec (k := 0) rfl rfl)) ?_
    refine Gx.val rfl rfl rfl (Val.cast (val_eql rfl rfl rfl) (v' := .bool false) rfl) ?_
    refine Gx.done ?_
    refine Gx.thenN ?_
    refine Gx.f rfl ?_
    refine Gx.skip ?_
    refine Gx.thenN ?_
    refine Gx.seq ?_
    refine Gx.regionO (fun j => j == 7) 9 [0, 1, 2, 3, 4, 5, 6, 7, 8] (fun us => match us with | [] => [Hp.rec_ b1 [.int .i64 1, .int .i64 ((i.val : Nat) : Int), .int .i64 ((j.val : Nat) : Int)], Hp.rec_ S [pv, .map (some mc), .map (some ma), .bool dn_], Hp.own FP 4 pv ps, Hp.map Try.prog 45 pairL vN mc ca, Hp.map Try.prog 45 pairL vN ma an, R, Hp.rec_ z5 [.int .i64 ((j.val : Nat) : Int), .int .i64 ((i.val : Nat) : Int)], Hp.rec_ z6 [.int .i64 ((i.val : Nat) : Int), .int .i64 ((j.val : Nat) : Int)]] | u1 :: _ => [Hp.rec_ b1 [.int .i64 1, .int .i64 ((i.val : Nat) : Int), .int .i64 ((j.val : Nat) : Int)], Hp.rec_ S [pv, .map (some mc), .map (some ma), .bool dn_], Hp.own FP 4 pv ps, Hp.mapE Try.prog 45 pairL vN pairV mc (putM ca (i, j) (cnt ca (i, j))) (i, j) (sN u1), Hp.map Try.prog 45 pairL vN ma an, R, Hp.rec_ z5 [.int .i64 ((j.val : Nat) : Int), .int .i64 ((i.val : Nat) : Int)], Hp.rec_ z6 [.int .i64 ((i.val : Nat) : Int), .int .i64 ((j.val : Nat) : Int)]]) Try.mixed (by kernel_rfl) rfl ?_
    refine Gw.val rfl rfl rfl rfl rfl (fun us => val_move rfl rfl) ?_
    refine Gw.val rfl rfl rfl rfl rfl (fun us => val_nilCheck rfl rfl) ?_
    refine Gw.val rfl rfl rfl rfl rfl (fun us => Val.cast (val_fieldAddr rfl Try.underlying39 rfl Try.ty37 rfl rfl) (v' := ptr S 1) rfl) ?_
    refine Gw.val0 rfl rfl rfl (by kernel_rfl) rfl rfl (val_load rfl Try.ty37 rfl rfl (cell_rec (k := 1) rfl rfl)) ?_
    refine Gw.val0 rfl rfl rfl (by kernel_rfl) rfl rfl (Val.cast (val_loadA rfl Try.ty45 rfl rfl rfl (cells_rec (k := 7) rfl)) (v' := .agg #[.int .i64 ((i.val : Nat) : Int), .int .i64 ((j.val : Nat) : Int)]) rfl) ?_
    refine Gw.val rfl rfl rfl rfl rfl (fun us => match us with | [] => val_lookup1 rfl Try.underlying37 Try.kL Try.ty3 rfl rfl (i := (i, j)) (trivial) (k := 3) rfl (r := .int .i64 ((cnt ca (i, j) : Nat) : Int)) (getM_vN ca (i, j)) | u1 :: _ => val_lookup1E rfl Try.underlying37 Try.kL Try.ty3 rfl rfl (i := (i, j)) (trivial) (k := 3) rfl (r := .int .i64 ((cnt ca (i, j) : Nat) : Int)) (getM_vN2 ca (i, j))) ?_
    refine Gw.val rfl rfl rfl rfl rfl (fun us => val_add rfl rfl rfl (r := ((cnt ca (i, j) + 1 : Nat) : Int)) (w64 (by omega) (by have := rm.cc (i, j); omega))) ?_
    refine Gw.chg rfl rfl rfl rfl rfl (fun v => ∃ s7 : Nat, v = .tuple #[vN (cnt ca (i, j)), .int .i64 ((s7 : Nat) : Int)]) (Eff.mono (eff_mapEntry rfl Try.underlying37 Try.ty3 (z0 := 0) rfl Try.kL pairK rfl rfl (i := (i, j)) (trivial) (k := 3) rfl (by unfold maxLen; omega) (r := cnt ca (i, j)) (rfl)) (by rintro _ _ ⟨s7, rfl, rfl⟩; exact ⟨⟨s7, rfl⟩, rfl⟩)) ?_
    rintro _ ⟨s7, rfl⟩
    refine Gw.val rfl rfl rfl rfl rfl (fun us => val_extract rfl rfl rfl) ?_
    refine Gw.done ?_
    refine Gx.norm (l' := [Hp.rec_ b1 [.int .i64 1, .int .i64 ((i.val : Nat) : Int), .int .i64 ((j.val : Nat) : Int)], Hp.rec_ S [pv, .map (some mc), .map (some ma), .bool dn_], Hp.own FP 4 pv ps, Hp.mapE Try.prog 45 pairL vN pairV mc (putM ca (i, j) (cnt ca (i, j))) (i, j) s7, Hp.map Try.prog 45 pairL vN ma an, R, Hp.rec_ z5 [.int .i64 ((j.val : Nat) : Int), .int .i64 ((i.val : Nat) : Int)], Hp.rec_ z6 [.int .i64 ((i.val : Nat) : Int), .int .i64 ((j.val : Nat) : Int)]]) rfl ?_
    refine Gx.eff0 rfl rfl (eff_entryStore rfl Try.underlying37 Try.kL pairK rfl rfl rfl (i := (i, j)) (r := (cnt ca (i, j) + 1)) (trivial) (k := 3) rfl (by rw [putM_length]; unfold maxLen; split <;> omega) (l' := [Hp.rec_ b1 [.int .i64 1, .int .i64 ((i.val : Nat) : Int), .int .i64 ((j.val : Nat) : Int)], Hp.rec_ S [pv, .map (some mc), .map (some ma), .bool dn_], Hp.own FP 4 pv ps, Hp.map Try.prog 45 pairL vN mc (inc ca (i, j)), Hp.map Try.prog 45 pairL vN ma an, R, Hp.rec_ z5 [.int .i64 ((j.val : Nat) : Int), .int .i64 ((i.val : Nat) : Int)], Hp.rec_ z6 [.int .i64 ((i.val : Nat) : Int), .int .i64 ((j.val : Nat) : Int)]]) (by rw [show putM (putM ca (i, j) (cnt ca (i, j))) (i, j) (cnt ca (i, j) + 1) = (inc ca (i, j)) from putM_twice ..]; rfl)) ?_
    rintro _ _ rfl
    refine Gx.done ?_
    refine Gx.thenN ?_
    refine Gx.region ?_
    refine Gx.val rfl rfl rfl (val_move rfl rfl) ?_
    refine Gx.val rfl rfl rfl (val_nilCheck rfl rfl) ?_
    refine Gx.val rfl rfl rfl (Val.cast (val_fieldAddr rfl Try.underlying41 rfl Try.ty3 rfl rfl) (v' := ptr (sB pv) (sO pv + i.val * 4 + 3)) rfl) ?_
    refine Gx.val rfl rfl rfl (val_load rfl Try.ty3 rfl rfl (cell_own (i := 3) (k := 2) rfl hx rfl)) ?_
    refine Gx.val rfl rfl rfl (val_add rfl rfl rfl (r := (x.owes + 1)) (w64 rfl (by omega))) ?_
    refine Gx.val rfl rfl rfl (val_nilCheck rfl rfl) ?_
    refine Gx.val rfl rfl rfl (Val.cast (val_fieldAddr rfl Try.underlying41 rfl Try.ty3 rfl rfl) (v' := ptr (sB pv) (sO pv + i.val * 4 + 3)) rfl) ?_
    refine Gx.eff0 rfl rfl (eff_storeEl (i := 3) (e' := (⟨x.works, x.bound, x.to, (x.owes + 1)⟩ : Pr)) rfl Try.ty3 rfl rfl rfl rfl (k := 2) rfl FP_len hx (by decide) (rfl) (l' := [Hp.rec_ b1 [.int .i64 1, .int .i64 ((i.val : Nat) : Int), .int .i64 ((j.val : Nat) : Int)], Hp.rec_ S [pv, .map (some mc), .map (some ma), .bool dn_], Hp.own FP 4 pv (ps.set i.val (⟨x.works, x.bound, x.to, (x.owes + 1)⟩ : Pr)), Hp.map Try.prog 45 pairL vN mc (inc ca (i, j)), Hp.map Try.prog 45 pairL vN ma an, R, Hp.rec_ z5 [.int .i64 ((j.val : Nat) : Int), .int .i64 ((i.val : Nat) : Int)], Hp.rec_ z6 [.int .i64 ((i.val : Nat) : Int), .int .i64 ((j.val : Nat) : Int)]]) rfl) ?_
    rintro _ _ rfl
    refine Gx.done ?_
    refine Gx.blkN ?_
    refine Gx.thenN ?_
    refine Gx.seq ?_
    refine Gx.region ?_
    refine Gx.val rfl rfl rfl (val_assign rfl rfl) ?_
    refine Gx.done ?_
    refine Gx.thenN ?_
    refine Gx.ret ?_
    refine Gx.drop 7 rfl ?_
    refine Gx.drop 6 rfl ?_
    refine Gx.drop 0 rfl ?_
    refine Gx.ret1 Try.results11 rfl ?_
    exact ⟨rfl, sep4 _ _ _ _ _⟩

theorem rest_hold {W w : World} {S : Nat} {pv : Value} {mc ma : Nat} {ps : List Pr} {ca an : Cn} {dn_ : Bool} {R : Hp} {i : Sm} {o : Int} {x : Pr} (hx : ps[i.val]? = some x) (rm : Rooms ca an x) (hworks : x.works = false) (H : Sat W w (qAt S pv mc ma ps ca an dn_ R)) :
    Calls Try.prog 11 #[ptr S 0, .agg #[.int .i64 3, .int .i64 ((i.val : Nat) : Int), .int .i64 o]] w (Ret W fun v l => v = .int .i64 6 ∧ sep l = qAt S pv mc ma ps ca an dn_ R) := by
  refine Gx.enter (l := [Hp.rec_ S [pv, .map (some mc), .map (some ma), .bool dn_], Hp.own FP 4 pv ps, Hp.map Try.prog 45 pairL vN mc ca, Hp.map Try.prog 45 pairL vN ma an, R]) Try.func11 rfl Try.ntmps11 rfl (H.frame4) ?_
  refine Gx.know (m' := [(0, ptr S 0), (1, .agg #[.int .i64 3, .int .i64 ((i.val : Nat) : Int), .int .i64 o])]) (.cons rfl (.cons rfl .nil)) ?_
  have r1 := rm.c
  have r2 := rm.a
  have r3 := rm.lo
  have r4 := rm.hi
  refine Gx.seq ?_
  refine Gx.region ?_
  refine Gx.eff rfl rfl rfl (eff_box rfl rfl (vs := [.int .i64 3, .int .i64 ((i.val : Nat) : Int), .int .i64 o]) rfl) ?_
  rintro _ _ ⟨b1, rfl, rfl⟩
  refine Gx.val rfl rfl rfl (val_assign rfl rfl) ?_
  refine Gx.done ?_
  refine Gx.thenN ?_
  refine Gx.seq ?_
  refine Gx.regionQ Try.mixed (by kernel_rfl) ?_
  refine Gq.val rfl rfl rfl (val_move rfl rfl) ?_
  refine Gq.val rfl rfl rfl (val_nilCheck rfl rfl) ?_
  refine Gq.val rfl rfl rfl (Val.cast (val_fieldAddr rfl Try.underlying39 rfl Try.ty36 rfl rfl) (v' := ptr S 0) rfl) ?_
  refine Gq.val rfl rfl rfl (val_load rfl Try.ty36 rfl rfl (cell_rec (k := 1) rfl rfl)) ?_
  refine Gq.val rfl rfl rfl (Val.cast (val_fieldAddr rfl Try.underlying32 rfl Try.ty3 rfl rfl) (v' := ptr b1 1) rfl) ?_
  refine Gq.val rfl rfl rfl (val_load rfl Try.ty3 rfl rfl (cell_rec (k := 0) rfl rfl)) ?_
  refine Gq.val rfl rfl rfl (val_ixa rfl Try.underlying36 Try.ty41 rfl rfl (j := i.val) (rfl) (reach_own (k := 2) rfl hx)) ?_
  refine Gq.val rfl rfl rfl (val_assign rfl rfl) ?_
  refine Gq.done ?_
  refine Gx.thenN ?_
  refine Gx.seq ?_
  -- region 2, in whatever order
  refine Gx.ones 4 (Gx.norm (l' := [Hp.rec_ b1 [.int .i64 3, .int .i64 ((i.val : Nat) : Int), .int .i64 o], Hp.rec_ S [pv, .map (some mc), .map (some ma), .bool dn_], Hp.own FP 4 pv ps, Hp.map Try.prog 45 pairL vN mc ca, Hp.map Try.prog 45 pairL vN ma an, R, 1, 1, 1, 1]) rfl ?_)
  obtain ⟨pp2x6, pp2x6e⟩ : ∃ p : Done → Hp, p = fun d => cond (dn d 12) (Hp.rec_ (pB (dv d 10)) [.int .i64 o, .int .i64 ((i.val : Nat) : Int)]) (cond (dn d 10) (Hp.rec_ (pB (dv d 10)) [.int .i64 0, .int .i64 0]) (1)) := ⟨_, rfl⟩
  obtain ⟨pp2x7, pp2x7e⟩ : ∃ p : Done → Hp, p = fun d => cond (dn d 13) (Hp.rec_ (pB (dv d 11)) [.int .i64 ((i.val : Nat) : Int), .int .i64 o]) (cond (dn d 11) (Hp.rec_ (pB (dv d 11)) [.int .i64 0, .int .i64 0]) (1)) := ⟨_, rfl⟩
  obtain ⟨pp2x8, pp2x8e⟩ : ∃ p : Done → Hp, p = fun d => cond (dn d 10) (Hp.pure (dv d 10 = ptr (pB (dv d 10)) 0)) 1 := ⟨_, rfl⟩
  obtain ⟨pp2x9, pp2x9e⟩ : ∃ p : Done → Hp, p = fun d => cond (dn d 11) (Hp.pure (dv d 11 = ptr (pB (dv d 11)) 0)) 1 := ⟨_, rfl⟩
  refine Gx.regionF [10, 11, 12, 13] [0, 1, 2, 3, 4, 5, 6, 7, 8, 9] (fun ιi => cond (Nat.beq ιi 8) [Hp.rec_ b1 [.int .i64 3, .int .i64 ((i.val : Nat) : Int), .int .i64 o]] (cond (Nat.beq ιi 6) [Hp.rec_ b1 [.int .i64 3, .int .i64 ((i.val : Nat) : Int), .int .i64 o]] (cond (Nat.beq ιi 3) [Hp.rec_ b1 [.int .i64 3, .int .i64 ((i.val : Nat) : Int), .int .i64 o]] (cond (Nat.beq ιi 1) [Hp.rec_ b1 [.int .i64 3, .int .i64 ((i.val : Nat) : Int), .int .i64 o]] ([]))))) (fun d => [Hp.rec_ b1 [.int .i64 3, .int .i64 ((i.val : Nat) : Int), .int .i64 o], Hp.rec_ S [pv, .map (some mc), .map (some ma), .bool dn_], Hp.own FP 4 pv ps, Hp.map Try.prog 45 pairL vN mc ca, Hp.map Try.prog 45 pairL vN ma an, R, pp2x6 d, pp2x7 d, pp2x8 d, pp2x9 d]) Try.mixed (by kernel_rfl) (by kernel_rfl) (by rw [pp2x6e]; rw [pp2x7e]; rw [pp2x8e]; rw [pp2x9e]; rfl) ?_ ?_
  · intro ιi d w hc hs H
    by_cases hn1 : ιi = 1
    · subst hn1
      exact H.only (k := 0) rfl rfl
    · by_cases hn3 : ιi = 3
      · subst hn3
        exact H.only (k := 0) rfl rfl
      · by_cases hn6 : ιi = 6
        · subst hn6
          exact H.only (k := 0) rfl rfl
        · by_cases hn8 : ιi = 8
          · subst hn8
            exact H.only (k := 0) rfl rfl
          · refine Sat.listed (l := []) H.noneL ?_
            simp only [beq_no hn1, beq_no hn3, beq_no hn6, beq_no hn8, cond_false]
  refine Gp.val rfl rfl rfl rfl (Val.cast (val_fieldAddr rfl Try.underlying32 rfl Try.ty3 rfl rfl) (v' := ptr b1 2) rfl) ?_
  refine Gp.val rfl rfl rfl rfl (val_load rfl Try.ty3 rfl rfl (cell_rec (k := 0) rfl rfl)) ?_
  refine Gp.val rfl rfl rfl rfl (Val.cast (val_fieldAddr rfl Try.underlying32 rfl Try.ty3 rfl rfl) (v' := ptr b1 1) rfl) ?_
  refine Gp.val rfl rfl rfl rfl (val_load rfl Try.ty3 rfl rfl (cell_rec (k := 0) rfl rfl)) ?_
  refine Gp.val rfl rfl rfl rfl (val_build rfl (qs := [(0, .int .i64 o), (1, .int .i64 ((i.val : Nat) : Int))]) rfl rfl (fun w => by go_simp) (v := .agg #[.int .i64 o, .int .i64 ((i.val : Nat) : Int)])) ?_
  refine Gp.val rfl rfl rfl rfl (Val.cast (val_fieldAddr rfl Try.underlying32 rfl Try.ty3 rfl rfl) (v' := ptr b1 1) rfl) ?_
  refine Gp.val rfl rfl rfl rfl (val_load rfl Try.ty3 rfl rfl (cell_rec (k := 0) rfl rfl)) ?_
  refine Gp.val rfl rfl rfl rfl (Val.cast (val_fieldAddr rfl Try.underlying32 rfl Try.ty3 rfl rfl) (v' := ptr b1 2) rfl) ?_
  refine Gp.val rfl rfl rfl rfl (val_load rfl Try.ty3 rfl rfl (cell_rec (k := 0) rfl rfl)) ?_
  refine Gp.val rfl rfl rfl rfl (val_build rfl (qs := [(0, .int .i64 ((i.val : Nat) : Int)), (1, .int .i64 o)]) rfl rfl (fun w => by go_simp) (v := .agg #[.int .i64 ((i.val : Nat) : Int), .int .i64 o])) ?_
  refine Gp.done (uniq_of (by kernel_rfl)) (by rfl) (by kernel_rfl) ⟨⟨_, rfl, ?_⟩, ⟨_, rfl, ?_⟩, ⟨_, rfl, ?_⟩, ⟨_, rfl, ?_⟩, trivial⟩ ?_
  · intro d hc hdi hpre a w hf H
    change Sat _ _ (sep [Hp.rec_ b1 [.int .i64 3, .int .i64 ((i.val : Nat) : Int), .int .i64 o], Hp.rec_ S [pv, .map (some mc), .map (some ma), .bool dn_], Hp.own FP 4 pv ps, Hp.map Try.prog 45 pairL vN mc ca, Hp.map Try.prog 45 pairL vN ma an, R, pp2x6 d, pp2x7 d, pp2x8 d, pp2x9 d]) at H
    have q10 := hdi
    have q12 : dn d 12 = false := hc.not 12 10 rfl (by kernel_rfl) q10
    have q13 : dn d 13 = false := hc.not 13 10 rfl (by kernel_rfl) q10
    have n6 : pp2x6 d = 1 := by rw [pp2x6e]; simp only [q10, q12, cond_true, cond_false]
    have n8 : pp2x8 d = 1 := by rw [pp2x8e]; simp only [q10, cond_true, cond_false]
    rw [n6, n8] at H
    refine EffAt.mono (Eff.at_ hf.slots H (eff_alloc rfl Try.ty45 (vs := [.int .i64 0, .int .i64 0]) rfl)) ?_
    rintro _ w2 ⟨_, ⟨b3, rfl, rfl⟩, H2⟩
    have H2 := Sat.fillAt H2 (k := 6) rfl
    have H2 := (Sat.pureI (p := ptr b3 0 = ptr b3 0) rfl H2).fillAt (k := 8) rfl
    obtain ⟨d2, hd2⟩ : ∃ d2, d2 = upd d 10 (ptr b3 0) := ⟨_, rfl⟩
    have m10 : dn d2 10 = true := by rw [hd2]; rfl
    have m12 : dn d2 12 = false := by rw [hd2]; exact q12
    have m13 : dn d2 13 = false := by rw [hd2]; exact q13
    rw [← hd2]
    change Sat _ _ (sep [Hp.rec_ b1 [.int .i64 3, .int .i64 ((i.val : Nat) : Int), .int .i64 o], Hp.rec_ S [pv, .map (some mc), .map (some ma), .bool dn_], Hp.own FP 4 pv ps, Hp.map Try.prog 45 pairL vN mc ca, Hp.map Try.prog 45 pairL vN ma an, R, pp2x6 d2, pp2x7 d2, pp2x8 d2, pp2x9 d2])
    have u6 := congrFun pp2x6e d2
    simp only [m10, m12, cond_true, cond_false] at u6
    have u7 : pp2x7 d2 = pp2x7 d := by rw [hd2, pp2x7e]; rfl
    have u8 := congrFun pp2x8e d2
    simp only [m10, cond_true, cond_false] at u8
    have u9 : pp2x9 d2 = pp2x9 d := by rw [hd2, pp2x9e]; rfl
    rw [u6, u7, u8, u9]
    subst hd2
    exact H2
  · intro d hc hdi hpre a w hf H
    change Sat _ _ (sep [Hp.rec_ b1 [.int .i64 3, .int .i64 ((i.val : Nat) : Int), .int .i64 o], Hp.rec_ S [pv, .map (some mc), .map (some ma), .bool dn_], Hp.own FP 4 pv ps, Hp.map Try.prog 45 pairL vN mc ca, Hp.map Try.prog 45 pairL vN ma an, R, pp2x6 d, pp2x7 d, pp2x8 d, pp2x9 d]) at H
    have q11 := hdi
    have q12 : dn d 12 = false := hc.not 12 11 rfl (by kernel_rfl) q11
    have q13 : dn d 13 = false := hc.not 13 11 rfl (by kernel_rfl) q11
    have n7 : pp2x7 d = 1 := by rw [pp2x7e]; simp only [q11, q13, cond_true, cond_false]
    have n9 : pp2x9 d = 1 := by rw [pp2x9e]; simp only [q11, cond_true, cond_false]
    rw [n7, n9] at H
    refine EffAt.mono (Eff.at_ hf.slots H (eff_alloc rfl Try.ty45 (vs := [.int .i64 0, .int .i64 0]) rfl)) ?_
    rintro _ w2 ⟨_, ⟨b4, rfl, rfl⟩, H2⟩
    have H2 := Sat.fillAt H2 (k := 7) rfl
    have H2 := (Sat.pureI (p := ptr b4 0 = ptr b4 0) rfl H2).fillAt (k := 9) rfl
    obtain ⟨d2, hd2⟩ : ∃ d2, d2 = upd d 11 (ptr b4 0) := ⟨_, rfl⟩
    have m11 : dn d2 11 = true := by rw [hd2]; rfl
    have m12 : dn d2 12 = false := by rw [hd2]; exact q12
    have m13 : dn d2 13 = false := by rw [hd2]; exact q13
    rw [← hd2]
    change Sat _ _ (sep [Hp.rec_ b1 [.int .i64 3, .int .i64 ((i.val : Nat) : Int), .int .i64 o], Hp.rec_ S [pv, .map (some mc), .map (some ma), .bool dn_], Hp.own FP 4 pv ps, Hp.map Try.prog 45 pairL vN mc ca, Hp.map Try.prog 45 pairL vN ma an, R, pp2x6 d2, pp2x7 d2, pp2x8 d2, pp2x9 d2])
    have u6 : pp2x6 d2 = pp2x6 d := by rw [hd2, pp2x6e]; rfl
    have u7 := congrFun pp2x7e d2
    simp only [m11, m13, cond_true, cond_false] at u7
    have u8 : pp2x8 d2 = pp2x8 d := by rw [hd2, pp2x8e]; rfl
    have u9 := congrFun pp2x9e d2
    simp only [m11, cond_true, cond_false] at u9
    rw [u6, u7, u8, u9]
    subst hd2
    exact H2
  · intro d hc hdi hpre a w hf H
    change Sat _ _ (sep [Hp.rec_ b1 [.int .i64 3, .int .i64 ((i.val : Nat) : Int), .int .i64 o], Hp.rec_ S [pv, .map (some mc), .map (some ma), .bool dn_], Hp.own FP 4 pv ps, Hp.map Try.prog 45 pairL vN mc ca, Hp.map Try.prog 45 pairL vN ma an, R, pp2x6 d, pp2x7 d, pp2x8 d, pp2x9 d]) at H
    have q10 : dn d 10 = true := hpre 10 (by kernel_rfl)
    have q10 : dn d 10 = true := hpre 10 (by kernel_rfl)
    have q11 : dn d 11 = true := hpre 11 (by kernel_rfl)
    have q12 := hdi
    have q13 : dn d 13 = false := hc.not 13 12 rfl (by kernel_rfl) q12
    have e10 : dv d 10 = ptr (pB (dv d 10)) 0 := H.factAt (k := 8) rfl (by rw [pp2x8e]; simp only [q10, cond_true])
    have e11 : dv d 11 = ptr (pB (dv d 11)) 0 := H.factAt (k := 9) rfl (by rw [pp2x9e]; simp only [q11, cond_true])
    have n6 : pp2x6 d = Hp.rec_ (pB (dv d 10)) [.int .i64 0, .int .i64 0] := by rw [pp2x6e]; simp only [q10, q12, cond_true, cond_false]
    have n7 : pp2x7 d = Hp.rec_ (pB (dv d 11)) [.int .i64 0, .int .i64 0] := by rw [pp2x7e]; simp only [q11, q13, cond_true, cond_false]
    rw [n6, n7] at H
    have s10 := hf.add hf.slots 10 rfl (by kernel_rfl) rfl q10 (v := ptr (pB (dv d 10)) 0) e10
    refine EffAt.mono (Eff.at_ s10 H (eff_store rfl Try.ty45 rfl rfl (us := [.int .i64 o, .int .i64 ((i.val : Nat) : Int)]) rfl rfl rfl (k := 6) rfl rfl (vs' := [.int .i64 o, .int .i64 ((i.val : Nat) : Int)]) rfl (l' := [Hp.rec_ b1 [.int .i64 3, .int .i64 ((i.val : Nat) : Int), .int .i64 o], Hp.rec_ S [pv, .map (some mc), .map (some ma), .bool dn_], Hp.own FP 4 pv ps, Hp.map Try.prog 45 pairL vN mc ca, Hp.map Try.prog 45 pairL vN ma an, R, Hp.rec_ (pB (dv d 10)) [.int .i64 o, .int .i64 ((i.val : Nat) : Int)], Hp.rec_ (pB (dv d 11)) [.int .i64 0, .int .i64 0], pp2x8 d, pp2x9 d]) rfl)) ?_
    rintro v w2 ⟨_, rfl, H2⟩
    obtain ⟨d2, hd2⟩ : ∃ d2, d2 = upd d 12 v := ⟨_, rfl⟩
    have m12 : dn d2 12 = true := by rw [hd2]; rfl
    have m10 : dn d2 10 = true := by rw [hd2]; exact q10
    have m11 : dn d2 11 = true := by rw [hd2]; exact q11
    have m13 : dn d2 13 = false := by rw [hd2]; exact q13
    rw [← hd2]
    change Sat _ _ (sep [Hp.rec_ b1 [.int .i64 3, .int .i64 ((i.val : Nat) : Int), .int .i64 o], Hp.rec_ S [pv, .map (some mc), .map (some ma), .bool dn_], Hp.own FP 4 pv ps, Hp.map Try.prog 45 pairL vN mc ca, Hp.map Try.prog 45 pairL vN ma an, R, pp2x6 d2, pp2x7 d2, pp2x8 d2, pp2x9 d2])
    have u6 := congrFun pp2x6e d2
    simp only [m10, m12, cond_true, cond_false] at u6
    have u7 := congrFun pp2x7e d2
    simp only [m11, m13, cond_true, cond_false] at u7
    have u8 : pp2x8 d2 = pp2x8 d := by rw [hd2, pp2x8e]; rfl
    have u9 : pp2x9 d2 = pp2x9 d := by rw [hd2, pp2x9e]; rfl
    rw [u6, u7, u8, u9]
    subst hd2
    exact H2
  · intro d hc hdi hpre a w hf H
    change Sat _ _ (sep [Hp.rec_ b1 [.int .i64 3, .int .i64 ((i.val : Nat) : Int), .int .i64 o], Hp.rec_ S [pv, .map (some mc), .map (some ma), .bool dn_], Hp.own FP 4 pv ps, Hp.map Try.prog 45 pairL vN mc ca, Hp.map Try.prog 45 pairL vN ma an, R, pp2x6 d, pp2x7 d, pp2x8 d, pp2x9 d]) at H
    have q11 : dn d 11 = true := hpre 11 (by kernel_rfl)
    have q12 : dn d 12 = true := hpre 12 (by kernel_rfl)
    have q10 : dn d 10 = true := hpre 10 (by kernel_rfl)
    have q11 : dn d 11 = true := hpre 11 (by kernel_rfl)
    have q12 : dn d 12 = true := hpre 12 (by kernel_rfl)
    have q13 := hdi
    have e11 : dv d 11 = ptr (pB (dv d 11)) 0 := H.factAt (k := 9) rfl (by rw [pp2x9e]; simp only [q11, cond_true])
    have e10 : dv d 10 = ptr (pB (dv d 10)) 0 := H.factAt (k := 8) rfl (by rw [pp2x8e]; simp only [q10, cond_true])
    have n6 : pp2x6 d = Hp.rec_ (pB (dv d 10)) [.int .i64 o, .int .i64 ((i.val : Nat) : Int)] := by rw [pp2x6e]; simp only [q10, q12, cond_true, cond_false]
    have n7 : pp2x7 d = Hp.rec_ (pB (dv d 11)) [.int .i64 0, .int .i64 0] := by rw [pp2x7e]; simp only [q11, q13, cond_true, cond_false]
    rw [n6, n7] at H
    have s11 := hf.add hf.slots 11 rfl (by kernel_rfl) rfl q11 (v := ptr (pB (dv d 11)) 0) e11
    refine EffAt.mono (Eff.at_ s11 H (eff_store rfl Try.ty45 rfl rfl (us := [.int .i64 ((i.val : Nat) : Int), .int .i64 o]) rfl rfl rfl (k := 7) rfl rfl (vs' := [.int .i64 ((i.val : Nat) : Int), .int .i64 o]) rfl (l' := [Hp.rec_ b1 [.int .i64 3, .int .i64 ((i.val : Nat) : Int), .int .i64 o], Hp.rec_ S [pv, .map (some mc), .map (some ma), .bool dn_], Hp.own FP 4 pv ps, Hp.map Try.prog 45 pairL vN mc ca, Hp.map Try.prog 45 pairL vN ma an, R, Hp.rec_ (pB (dv d 10)) [.int .i64 o, .int .i64 ((i.val : Nat) : Int)], Hp.rec_ (pB (dv d 11)) [.int .i64 ((i.val : Nat) : Int), .int .i64 o], pp2x8 d, pp2x9 d]) rfl)) ?_
    rintro v w2 ⟨_, rfl, H2⟩
    obtain ⟨d2, hd2⟩ : ∃ d2, d2 = upd d 13 v := ⟨_, rfl⟩
    have m13 : dn d2 13 = true := by rw [hd2]; rfl
    have m11 : dn d2 11 = true := by rw [hd2]; exact q11
    have m12 : dn d2 12 = true := by rw [hd2]; exact q12
    have m10 : dn d2 10 = true := by rw [hd2]; exact q10
    rw [← hd2]
    change Sat _ _ (sep [Hp.rec_ b1 [.int .i64 3, .int .i64 ((i.val : Nat) : Int), .int .i64 o], Hp.rec_ S [pv, .map (some mc), .map (some ma), .bool dn_], Hp.own FP 4 pv ps, Hp.map Try.prog 45 pairL vN mc ca, Hp.map Try.prog 45 pairL vN ma an, R, pp2x6 d2, pp2x7 d2, pp2x8 d2, pp2x9 d2])
    have u6 := congrFun pp2x6e d2
    simp only [m10, m12, cond_true, cond_false] at u6
    have u7 := congrFun pp2x7e d2
    simp only [m11, m13, cond_true, cond_false] at u7
    have u8 : pp2x8 d2 = pp2x8 d := by rw [hd2, pp2x8e]; rfl
    have u9 : pp2x9 d2 = pp2x9 d := by rw [hd2, pp2x9e]; rfl
    rw [u6, u7, u8, u9]
    subst hd2
    exact H2
  · intro d hc hall a hf w H
    change Sat _ _ (sep [Hp.rec_ b1 [.int .i64 3, .int .i64 ((i.val : Nat) : Int), .int .i64 o], Hp.rec_ S [pv, .map (some mc), .map (some ma), .bool dn_], Hp.own FP 4 pv ps, Hp.map Try.prog 45 pairL vN mc ca, Hp.map Try.prog 45 pairL vN ma an, R, pp2x6 d, pp2x7 d, pp2x8 d, pp2x9 d]) at H
    have q10 : dn d 10 = true := hall 10 rfl
    have q11 : dn d 11 = true := hall 11 rfl
    have q12 : dn d 12 = true := hall 12 rfl
    have q13 : dn d 13 = true := hall 13 rfl
    have e10 : dv d 10 = ptr (pB (dv d 10)) 0 := H.factAt (k := 8) rfl (by rw [pp2x8e]; simp only [q10, cond_true])
    have e11 : dv d 11 = ptr (pB (dv d 11)) 0 := H.factAt (k := 9) rfl (by rw [pp2x9e]; simp only [q11, cond_true])
    have n6 : pp2x6 d = Hp.rec_ (pB (dv d 10)) [.int .i64 o, .int .i64 ((i.val : Nat) : Int)] := by rw [pp2x6e]; simp only [q10, q12, cond_true, cond_false]
    have n7 : pp2x7 d = Hp.rec_ (pB (dv d 11)) [.int .i64 ((i.val : Nat) : Int), .int .i64 o] := by rw [pp2x7e]; simp only [q11, q13, cond_true, cond_false]
    have n8 : pp2x8 d = Hp.pure (dv d 10 = ptr (pB (dv d 10)) 0) := by rw [pp2x8e]; simp only [q10, cond_true]
    have n9 : pp2x9 d = Hp.pure (dv d 11 = ptr (pB (dv d 11)) 0) := by rw [pp2x9e]; simp only [q11, cond_true]
    rw [n6, n7, n8, n9] at H
    clear n6 n7 n8 n9
    obtain ⟨z5, hz5⟩ : ∃ b, b = pB (dv d 10) := ⟨_, rfl⟩
    rw [← hz5] at e10 H
    have s10 := hf.add hf.slots 10 rfl rfl rfl q10 (v := ptr z5 0) e10
    obtain ⟨z6, hz6⟩ : ∃ b, b = pB (dv d 11) := ⟨_, rfl⟩
    rw [← hz6] at e11 H
    have s11 := hf.add s10 11 rfl rfl rfl q11 (v := ptr z6 0) e11
    refine Gx.use s11 H ?_
    refine Gx.drop 9 rfl ?_
    refine Gx.drop 8 rfl ?_
    refine Gx.norm (l' := [Hp.rec_ b1 [.int .i64 3, .int .i64 ((i.val : Nat) : Int), .int .i64 o], Hp.rec_ S [pv, .map (some mc), .map (some ma), .bool dn_], Hp.own FP 4 pv ps, Hp.map Try.prog 45 pairL vN mc ca, Hp.map Try.prog 45 pairL vN ma an, R, Hp.rec_ z5 [.int .i64 o, .int .i64 ((i.val : Nat) : Int)], Hp.rec_ z6 [.int .i64 ((i.val : Nat) : Int), .int .i64 o]]) rfl ?_
    refine Gx.thenN ?_
    refine Gx.seq ?_
    refine Gx.seq ?_
    refine Gx.region ?_
    refine Gx.val rfl rfl rfl (Val.cast (val_fieldAddr rfl Try.underlying32 rfl Try.ty3 rfl rfl) (v' := ptr b1 0) rfl) ?_
    refine Gx.val rfl rfl rfl (val_load rfl Try.ty3 rfl rfl (cell_rec (k := 0) rfl rfl)) ?_
    refine Gx.done ?_
    refine Gx.thenN ?_
    refine Gx.block ?_
    refine Gx.seq ?_
    refine Gx.seq ?_
    refine Gx.region ?_
    refine Gx.val rfl rfl rfl (Val.cast (val_eql rfl rfl rfl) (v' := .bool false) rfl) ?_
    refine Gx.val rfl rfl rfl (val_assign rfl rfl) ?_
    refine Gx.done ?_
    refine Gx.thenN ?_
    refine Gx.f rfl ?_
    refine Gx.region ?_
    refine Gx.val rfl rfl rfl (Val.cast (val_eql rfl rfl rfl) (v' := .bool true) rfl) ?_
    refine Gx.val rfl rfl rfl (val_assign rfl rfl) ?_
    refine Gx.done ?_
    refine Gx.thenN ?_
    refine Gx.t rfl ?_
    refine Gx.seq ?_
    refine Gx.seq ?_
    refine Gx.region ?_
    refine Gx.val rfl rfl rfl (val_move rfl rfl) ?_
    refine Gx.val rfl rfl rfl (val_nilCheck rfl rfl) ?_
    refine Gx.val rfl rfl rfl (Val.cast (val_fieldAddr rfl Try.underlying41 rfl Try.ty4 rfl rfl) (v' := ptr (sB pv) (sO pv + i.val * 4)) rfl) ?_
    refine Gx.val rfl rfl rfl (val_load rfl Try.ty4 rfl rfl (cell_own (i := 0) (k := 2) rfl hx rfl)) ?_
    refine Gx.val rfl rfl rfl (val_not rfl rfl) ?_
    refine Gx.done ?_
    refine Gx.thenN ?_
    refine Gx.boolT rfl (by rw [hworks]; rfl) ?_
    refine Gx.seq ?_
    refine Gx.region ?_
    refine Gx.val rfl rfl rfl (val_assign rfl rfl) ?_
    refine Gx.done ?_
    refine Gx.thenN ?_
    refine Gx.ret ?_
    refine Gx.thenR ?_
    refine Gx.blkR ?_
    refine Gx.thenR ?_
    refine Gx.drop 7 rfl ?_
    refine Gx.drop 6 rfl ?_
    refine Gx.drop 0 rfl ?_
    refine Gx.ret1 Try.results11 rfl ?_
    exact ⟨rfl, sep4 _ _ _ _ _⟩

theorem rest_ok {W w : World} {S : Nat} {pv : Value} {mc ma : Nat} {ps : List Pr} {ca an : Cn} {dn_ : Bool} {R : Hp} {i : Sm} {o : Int} {x : Pr} (hx : ps[i.val]? = some x) (rm : Rooms ca an x) (hworks : x.works = true) (H : Sat W w (qAt S pv mc ma ps ca an dn_ R)) :
    Calls Try.prog 11 #[ptr S 0, .agg #[.int .i64 3, .int .i64 ((i.val : Nat) : Int), .int .i64 o]] w (Ret W fun v l => v = .int .i64 0 ∧ sep l = qAt S pv mc ma (ps.set i.val (⟨false, x.bound, x.to, x.owes⟩ : Pr)) ca an dn_ R) := by
  refine Gx.enter (l := [Hp.rec_ S [pv, .map (some mc), .map (some ma), .bool dn_], Hp.own FP 4 pv ps, Hp.map Try.prog 45 pairL vN mc ca, Hp.map Try.prog 45 pairL vN ma an, R]) Try.func11 rfl Try.ntmps11 rfl (H.frame4) ?_
  refine Gx.know (m' := [(0, ptr S 0), (1, .agg #[.int .i64 3, .int .i64 ((i.val : Nat) : Int), .int .i64 o])]) (.cons rfl (.cons rfl .nil)) ?_
  have r1 := rm.c
  have r2 := rm.a
  have r3 := rm.lo
  have r4 := rm.hi
  refine Gx.seq ?_
  refine Gx.region ?_
  refine Gx.eff rfl rfl rfl (eff_box rfl rfl (vs := [.int .i64 3, .int .i64 ((i.val : Nat) : Int), .int .i64 o]) rfl) ?_
  rintro _ _ ⟨b1, rfl, rfl⟩
  refine Gx.val rfl rfl rfl (val_assign rfl rfl) ?_
  refine Gx.done ?_
  refine Gx.thenN ?_
  refine Gx.seq ?_
  refine Gx.regionQ Try.mixed (by kernel_rfl) ?_
  refine Gq.val rfl rfl rfl (val_move rfl rfl) ?_
  refine Gq.val rfl rfl rfl (val_nilCheck rfl rfl) ?_
  refine Gq.val rfl rfl rfl (Val.cast (val_fieldAddr rfl Try.underlying39 rfl Try.ty36 rfl rfl) (v' := ptr S 0) rfl) ?_
  refine Gq.val rfl rfl rfl (val_load rfl Try.ty36 rfl rfl (cell_rec (k := 1) rfl rfl)) ?_
  refine Gq.val rfl rfl rfl (Val.cast (val_fieldAddr rfl Try.underlying32 rfl Try.ty3 rfl rfl) (v' := ptr b1 1) rfl) ?_
  refine Gq.val rfl rfl rfl (val_load rfl Try.ty3 rfl rfl (cell_rec (k := 0) rfl rfl)) ?_
  refine Gq.val rfl rfl rfl (val_ixa rfl Try.underlying36 Try.ty41 rfl rfl (j := i.val) (rfl) (reach_own (k := 2) rfl hx)) ?_
  refine Gq.val rfl rfl rfl (val_assign rfl rfl) ?_
  refine Gq.done ?_
  refine Gx.thenN ?_
  refine Gx.seq ?_
  -- region 2, in whatever order
  refine Gx.ones 4 (Gx.norm (l' := [Hp.rec_ b1 [.int .i64 3, .int .i64 ((i.val : Nat) : Int), .int .i64 o], Hp.rec_ S [pv, .map (some mc), .map (some ma), .bool dn_], Hp.own FP 4 pv ps, Hp.map Try.prog 45 pairL vN mc ca, Hp.map Try.prog 45 pairL vN ma an, R, 1, 1, 1, 1]) rfl ?_)
  obtain ⟨pp2x6, pp2x6e⟩ : ∃ p : Done → Hp, p = fun d => cond (dn d 12) (Hp.rec_ (pB (dv d 10)) [.int .i64 o, .int .i64 ((i.val : Nat) : Int)]) (cond (dn d 10) (Hp.rec_ (pB (dv d 10)) [.int .i64 0, .int .i64 0]) (1)) := ⟨_, rfl⟩
  obtain ⟨pp2x7, pp2x7e⟩ : ∃ p : Done → Hp, p = fun d => cond (dn d 13) (Hp.rec_ (pB (dv d 11)) [.int .i64 ((i.val : Nat) : Int), .int .i64 o]) (cond (dn d 11) (Hp.rec_ (pB (dv d 11)) [.int .i64 0, .int .i64 0]) (1)) := ⟨_, rfl⟩
  obtain ⟨pp2x8, pp2x8e⟩ : ∃ p : Done → Hp, p = fun d => cond (dn d 10) (Hp.pure (dv d 10 = ptr (pB (dv d 10)) 0)) 1 := ⟨_, rfl⟩
  obtain ⟨pp2x9, pp2x9e⟩ : ∃ p : Done → Hp, p = fun d => cond (dn d 11) (Hp.pure (dv d 11 = ptr (pB (dv d 11)) 0)) 1 := ⟨_, rfl⟩
  refine Gx.regionF [10, 11, 12, 13] [0, 1, 2, 3, 4, 5, 6, 7, 8, 9] (fun ιi => cond (Nat.beq ιi 8) [Hp.rec_ b1 [.int .i64 3, .int .i64 ((i.val : Nat) : Int), .int .i64 o]] (cond (Nat.beq ιi 6) [Hp.rec_ b1 [.int .i64 3, .int .i64 ((i.val : Nat) : Int), .int .i64 o]] (cond (Nat.beq ιi 3) [Hp.rec_ b1 [.int .i64 3, .int .i64 ((i.val : Nat) : Int), .int .i64 o]] (cond (Nat.beq ιi 1) [Hp.rec_ b1 [.int .i64 3, .int .i64 ((i.val : Nat) : Int), .int .i64 o]] ([]))))) (fun d => [Hp.rec_ b1 [.int .i64 3, .int .i64 ((i.val : Nat) : Int), .int .i64 o], Hp.rec_ S [pv, .map (some mc), .map (some ma), .bool dn_], Hp.own FP 4 pv ps, Hp.map Try.prog 45 pairL vN mc ca, Hp.map Try.prog 45 pairL vN ma an, R, pp2x6 d, pp2x7 d, pp2x8 d, pp2x9 d]) Try.mixed (by kernel_rfl) (by kernel_rfl) (by rw [pp2x6e]; rw [pp2x7e]; rw [pp2x8e]; rw [pp2x9e]; rfl) ?_ ?_
  · intro ιi d w hc hs H
    by_cases hn1 : ιi = 1
    · subst hn1
      exact H.only (k := 0) rfl rfl
    · by_cases hn3 : ιi = 3
      · subst hn3
        exact H.only (k := 0) rfl rfl
      · by_cases hn6 : ιi = 6
        · subst hn6
          exact H.only (k := 0) rfl rfl
        · by_cases hn8 : ιi = 8
          · subst hn8
            exact H.only (k := 0) rfl rfl
          · refine Sat.listed (l := []) H.noneL ?_
            simp only [beq_no hn1, beq_no hn3, beq_no hn6, beq_no hn8, cond_false]
  refine Gp.val rfl rfl rfl rfl (Val.cast (val_fieldAddr rfl Try.underlying32 rfl Try.ty3 rfl rfl) (v' := ptr b1 2) rfl) ?_
  refine Gp.val rfl rfl rfl rfl (val_load rfl Try.ty3 rfl rfl (cell_rec (k := 0) rfl rfl)) ?_
  refine Gp.val rfl rfl rfl rfl (Val.cast (val_fieldAddr rfl Try.underlying32 rfl Try.ty3 rfl rfl) (v' := ptr b1 1) rfl) ?_
  refine Gp.val rfl rfl rfl rfl (val_load rfl Try.ty3 rfl rfl (cell_rec (k := 0) rfl rfl)) ?_
  refine Gp.val rfl rfl rfl rfl (val_build rfl (qs := [(0, .int .i64 o), (1, .int .i64 ((i.val : Nat) : Int))]) rfl rfl (fun w => by go_simp) (v := .agg #[.int .i64 o, .int .i64 ((i.val : Nat) : Int)])) ?_
  refine Gp.val rfl rfl rfl rfl (Val.cast (val_fieldAddr rfl Try.underlying32 rfl Try.ty3 rfl rfl) (v' := ptr b1 1) rfl) ?_
  refine Gp.val rfl rfl rfl rfl (val_load rfl Try.ty3 rfl rfl (cell_rec (k := 0) rfl rfl)) ?_
  refine Gp.val rfl rfl rfl rfl (Val.cast (val_fieldAddr rfl Try.underlying32 rfl Try.ty3 rfl rfl) (v' := ptr b1 2) rfl) ?_
  refine Gp.val rfl rfl rfl rfl (val_load rfl Try.ty3 rfl rfl (cell_rec (k := 0) rfl rfl)) ?_
  refine Gp.val rfl rfl rfl rfl (val_build rfl (qs := [(0, .int .i64 ((i.val : Nat) : Int)), (1, .int .i64 o)]) rfl rfl (fun w => by go_simp) (v := .agg #[.int .i64 ((i.val : Nat) : Int), .int .i64 o])) ?_
  refine Gp.done (uniq_of (by kernel_rfl)) (by rfl) (by kernel_rfl) ⟨⟨_, rfl, ?_⟩, ⟨_, rfl, ?_⟩, ⟨_, rfl, ?_⟩, ⟨_, rfl, ?_⟩, trivial⟩ ?_
  · intro d hc hdi hpre a w hf H
    change Sat _ _ (sep [Hp.rec_ b1 [.int .i64 3, .int .i64 ((i.val : Nat) : Int), .int .i64 o], Hp.rec_ S [pv, .map (some mc), .map (some ma), .bool dn_], Hp.own FP 4 pv ps, Hp.map Try.prog 45 pairL vN mc ca, Hp.map Try.prog 45 pairL vN ma an, R, pp2x6 d, pp2x7 d, pp2x8 d, pp2x9 d]) at H
    have q10 := hdi
    have q12 : dn d 12 = false := hc.not 12 10 rfl (by kernel_rfl) q10
    have q13 : dn d 13 = false := hc.not 13 10 rfl (by kernel_rfl) q10
    have n6 : pp2x6 d = 1 := by rw [pp2x6e]; simp only [q10, q12, cond_true, cond_false]
    have n8 : pp2x8 d = 1 := by rw [pp2x8e]; simp only [q10, cond_true, cond_false]
    rw [n6, n8] at H
    refine EffAt.mono (Eff.at_ hf.slots H (eff_alloc rfl Try.ty45 (vs := [.int .i64 0, .int .i64 0]) rfl)) ?_
    rintro _ w2 ⟨_, ⟨b3, rfl, rfl⟩, H2⟩
    have H2 := Sat.fillAt H2 (k := 6) rfl
    have H2 := (Sat.pureI (p := ptr b3 0 = ptr b3 0) rfl H2).fillAt (k := 8) rfl
    obtain ⟨d2, hd2⟩ : ∃ d2, d2 = upd d 10 (ptr b3 0) := ⟨_, rfl⟩
    have m10 : dn d2 10 = true := by rw [hd2]; rfl
    have m12 : dn d2 12 = false := by rw [hd2]; exact q12
    have m13 : dn d2 13 = false := by rw [hd2]; exact q13
    rw [← hd2]
    change Sat _ _ (sep [Hp.rec_ b1 [.int .i64 3, .int .i64 ((i.val : Nat) : Int), .int .i64 o], Hp.rec_ S [pv, .map (some mc), .map (some ma), .bool dn_], Hp.own FP 4 pv ps, Hp.map Try.prog 45 pairL vN mc ca, Hp.map Try.prog 45 pairL vN ma an, R, pp2x6 d2, pp2x7 d2, pp2x8 d2, pp2x9 d2])
    have u6 := congrFun pp2x6e d2
    simp only [m10, m12, cond_true, cond_false] at u6
    have u7 : pp2x7 d2 = pp2x7 d := by rw [hd2, pp2x7e]; rfl
    have u8 := congrFun pp2x8e d2
    simp only [m10, cond_true, cond_false] at u8
    have u9 : pp2x9 d2 = pp2x9 d := by rw [hd2, pp2x9e]; rfl
    rw [u6, u7, u8, u9]
    subst hd2
    exact H2
  · intro d hc hdi hpre a w hf H
    change Sat _ _ (sep [Hp.rec_ b1 [.int .i64 3, .int .i64 ((i.val : Nat) : Int), .int .i64 o], Hp.rec_ S [pv, .map (some mc), .map (some ma), .bool dn_], Hp.own FP 4 pv ps, Hp.map Try.prog 45 pairL vN mc ca, Hp.map Try.prog 45 pairL vN ma an, R, pp2x6 d, pp2x7 d, pp2x8 d, pp2x9 d]) at H
    have q11 := hdi
    have q12 : dn d 12 = false := hc.not 12 11 rfl (by kernel_rfl) q11
    have q13 : dn d 13 = false := hc.not 13 11 rfl (by kernel_rfl) q11
    have n7 : pp2x7 d = 1 := by rw [pp2x7e]; simp only [q11, q13, cond_true, cond_false]
    have n9 : pp2x9 d = 1 := by rw [pp2x9e]; simp only [q11, cond_true, cond_false]
    rw [n7, n9] at H
    refine EffAt.mono (Eff.at_ hf.slots H (eff_alloc rfl Try.ty45 (vs := [.int .i64 0, .int .i64 0]) rfl)) ?_
    rintro _ w2 ⟨_, ⟨b4, rfl, rfl⟩, H2⟩
    have H2 := Sat.fillAt H2 (k := 7) rfl
    have H2 := (Sat.pureI (p := ptr b4 0 = ptr b4 0) rfl H2).fillAt (k := 9) rfl
    obtain ⟨d2, hd2⟩ : ∃ d2, d2 = upd d 11 (ptr b4 0) := ⟨_, rfl⟩
    have m11 : dn d2 11 = true := by rw [hd2]; rfl
    have m12 : dn d2 12 = false := by rw [hd2]; exact q12
    have m13 : dn d2 13 = false := by rw [hd2]; exact q13
    rw [← hd2]
    change Sat _ _ (sep [Hp.rec_ b1 [.int .i64 3, .int .i64 ((i.val : Nat) : Int), .int .i64 o], Hp.rec_ S [pv, .map (some mc), .map (some ma), .bool dn_], Hp.own FP 4 pv ps, Hp.map Try.prog 45 pairL vN mc ca, Hp.map Try.prog 45 pairL vN ma an, R, pp2x6 d2, pp2x7 d2, pp2x8 d2, pp2x9 d2])
    have u6 : pp2x6 d2 = pp2x6 d := by rw [hd2, pp2x6e]; rfl
    have u7 := congrFun pp2x7e d2
    simp only [m11, m13, cond_true, cond_false] at u7
    have u8 : pp2x8 d2 = pp2x8 d := by rw [hd2, pp2x8e]; rfl
    have u9 := congrFun pp2x9e d2
    simp only [m11, cond_true, cond_false] at u9
    rw [u6, u7, u8, u9]
    subst hd2
    exact H2
  · intro d hc hdi hpre a w hf H
    change Sat _ _ (sep [Hp.rec_ b1 [.int .i64 3, .int .i64 ((i.val : Nat) : Int), .int .i64 o], Hp.rec_ S [pv, .map (some mc), .map (some ma), .bool dn_], Hp.own FP 4 pv ps, Hp.map Try.prog 45 pairL vN mc ca, Hp.map Try.prog 45 pairL vN ma an, R, pp2x6 d, pp2x7 d, pp2x8 d, pp2x9 d]) at H
    have q10 : dn d 10 = true := hpre 10 (by kernel_rfl)
    have q10 : dn d 10 = true := hpre 10 (by kernel_rfl)
    have q11 : dn d 11 = true := hpre 11 (by kernel_rfl)
    have q12 := hdi
    have q13 : dn d 13 = false := hc.not 13 12 rfl (by kernel_rfl) q12
    have e10 : dv d 10 = ptr (pB (dv d 10)) 0 := H.factAt (k := 8) rfl (by rw [pp2x8e]; simp only [q10, cond_true])
    have e11 : dv d 11 = ptr (pB (dv d 11)) 0 := H.factAt (k := 9) rfl (by rw [pp2x9e]; simp only [q11, cond_true])
    have n6 : pp2x6 d = Hp.rec_ (pB (dv d 10)) [.int .i64 0, .int .i64 0] := by rw [pp2x6e]; simp only [q10, q12, cond_true, cond_false]
    have n7 : pp2x7 d = Hp.rec_ (pB (dv d 11)) [.int .i64 0, .int .i64 0] := by rw [pp2x7e]; simp only [q11, q13, cond_true, cond_false]
    rw [n6, n7] at H
    have s10 := hf.add hf.slots 10 rfl (by kernel_rfl) rfl q10 (v := ptr (pB (dv d 10)) 0) e10
    refine EffAt.mono (Eff.at_ s10 H (eff_store rfl Try.ty45 rfl rfl (us := [.int .i64 o, .int .i64 ((i.val : Nat) : Int)]) rfl rfl rfl (k := 6) rfl rfl (vs' := [.int .i64 o, .int .i64 ((i.val : Nat) : Int)]) rfl (l' := [Hp.rec_ b1 [.int .i64 3, .int .i64 ((i.val : Nat) : Int), .int .i64 o], Hp.rec_ S [pv, .map (some mc), .map (some ma), .bool dn_], Hp.own FP 4 pv ps, Hp.map Try.prog 45 pairL vN mc ca, Hp.map Try.prog 45 pairL vN ma an, R, Hp.rec_ (pB (dv d 10)) [.int .i64 o, .int .i64 ((i.val : Nat) : Int)], Hp.rec_ (pB (dv d 11)) [.int .i64 0, .int .i64 0], pp2x8 d, pp2x9 d]) rfl)) ?_
    rintro v w2 ⟨_, rfl, H2⟩
    obtain ⟨d2, hd2⟩ : ∃ d2, d2 = upd d 12 v := ⟨_, rfl⟩
    have m12 : dn d2 12 = true := by rw [hd2]; rfl
    have m10 : dn d2 10 = true := by rw [hd2]; exact q10
    have m11 : dn d2 11 = true := by rw [hd2]; exact q11
    have m13 : dn d2 13 = false := by rw [hd2]; exact q13
    rw [← hd2]
    change Sat _ _ (sep [Hp.rec_ b1 [.int .i64 3, .int .i64 ((i.val : Nat) : Int), .int .i64 o], Hp.rec_ S [pv, .map (some mc), .map (some ma), .bool dn_], Hp.own FP 4 pv ps, Hp.map Try.prog 45 pairL vN mc ca, Hp.map Try.prog 45 pairL vN ma an, R, pp2x6 d2, pp2x7 d2, pp2x8 d2, pp2x9 d2])
    have u6 := congrFun pp2x6e d2
    simp only [m10, m12, cond_true, cond_false] at u6
    have u7 := congrFun pp2x7e d2
    simp only [m11, m13, cond_true, cond_false] at u7
    have u8 : pp2x8 d2 = pp2x8 d := by rw [hd2, pp2x8e]; rfl
    have u9 : pp2x9 d2 = pp2x9 d := by rw [hd2, pp2x9e]; rfl
    rw [u6, u7, u8, u9]
    subst hd2
    exact H2
  · intro d hc hdi hpre a w hf H
    change Sat _ _ (sep [Hp.rec_ b1 [.int .i64 3, .int .i64 ((i.val : Nat) : Int), .int .i64 o], Hp.rec_ S [pv, .map (some mc), .map (some ma), .bool dn_], Hp.own FP 4 pv ps, Hp.map Try.prog 45 pairL vN mc ca, Hp.map Try.prog 45 pairL vN ma an, R, pp2x6 d, pp2x7 d, pp2x8 d, pp2x9 d]) at H
    have q11 : dn d 11 = true := hpre 11 (by kernel_rfl)
    have q12 : dn d 12 = true := hpre 12 (by kernel_rfl)
    have q10 : dn d 10 = true := hpre 10 (by kernel_rfl)
    have q11 : dn d 11 = true := hpre 11 (by kernel_rfl)
    have q12 : dn d 12 = true := hpre 12 (by kernel_rfl)
    have q13 := hdi
    have e11 : dv d 11 = ptr (pB (dv d 11)) 0 := H.factAt (k := 9) rfl (by rw [pp2x9e]; simp only [q11, cond_true])
    have e10 : dv d 10 = ptr (pB (dv d 10)) 0 := H.factAt (k := 8) rfl (by rw [pp2x8e]; simp only [q10, cond_true])
    have n6 : pp2x6 d = Hp.rec_ (pB (dv d 10)) [.int .i64 o, .int .i64 ((i.val : Nat) : Int)] := by rw [pp2x6e]; simp only [q10, q12, cond_true, cond_false]
    have n7 : pp2x7 d = Hp.rec_ (pB (dv d 11)) [.int .i64 0, .int .i64 0] := by rw [pp2x7e]; simp only [q11, q13, cond_true, cond_false]
    rw [n6, n7] at H
    have s11 := hf.add hf.slots 11 rfl (by kernel_rfl) rfl q11 (v := ptr (pB (dv d 11)) 0) e11
    refine EffAt.mono (Eff.at_ s11 H (eff_store rfl Try.ty45 rfl rfl (us := [.int .i64 ((i.val : Nat) : Int), .int .i64 o]) rfl rfl rfl (k := 7) rfl rfl (vs' := [.int .i64 ((i.val : Nat) : Int), .int .i64 o]) rfl (l' := [Hp.rec_ b1 [.int .i64 3, .int .i64 ((i.val : Nat) : Int), .int .i64 o], Hp.rec_ S [pv, .map (some mc), .map (some ma), .bool dn_], Hp.own FP 4 pv ps, Hp.map Try.prog 45 pairL vN mc ca, Hp.map Try.prog 45 pairL vN ma an, R, Hp.rec_ (pB (dv d 10)) [.int .i64 o, .int .i64 ((i.val : Nat) : Int)], Hp.rec_ (pB (dv d 11)) [.int .i64 ((i.val : Nat) : Int), .int .i64 o], pp2x8 d, pp2x9 d]) rfl)) ?_
    rintro v w2 ⟨_, rfl, H2⟩
    obtain ⟨d2, hd2⟩ : ∃ d2, d2 = upd d 13 v := ⟨_, rfl⟩
    have m13 : dn d2 13 = true := by rw [hd2]; rfl
    have m11 : dn d2 11 = true := by rw [hd2]; exact q11
    have m12 : dn d2 12 = true := by rw [hd2]; exact q12
    have m10 : dn d2 10 = true := by rw [hd2]; exact q10
    rw [← hd2]
    change Sat _ _ (sep [Hp.rec_ b1 [.int .i64 3, .int .i64 ((i.val : Nat) : Int), .int .i64 o], Hp.rec_ S [pv, .map (some mc), .map (some ma), .bool dn_], Hp.own FP 4 pv ps, Hp.map Try.prog 45 pairL vN mc ca, Hp.map Try.prog 45 pairL vN ma an, R, pp2x6 d2, pp2x7 d2, pp2x8 d2, pp2x9 d2])
    have u6 := congrFun pp2x6e d2
    simp only [m10, m12, cond_true, cond_false] at u6
    have u7 := congrFun pp2x7e d2
    simp only [m11, m13, cond_true, cond_false] at u7
    have u8 : pp2x8 d2 = pp2x8 d := by rw [hd2, pp2x8e]; rfl
    have u9 : pp2x9 d2 = pp2x9 d := by rw [hd2, pp2x9e]; rfl
    rw [u6, u7, u8, u9]
    subst hd2
    exact H2
  · intro d hc hall a hf w H
    change Sat _ _ (sep [Hp.rec_ b1 [.int .i64 3, .int .i64 ((i.val : Nat) : Int), .int .i64 o], Hp.rec_ S [pv, .map (some mc), .map (some ma), .bool dn_], Hp.own FP 4 pv ps, Hp.map Try.prog 45 pairL vN mc ca, Hp.map Try.prog 45 pairL vN ma an, R, pp2x6 d, pp2x7 d, pp2x8 d, pp2x9 d]) at H
    have q10 : dn d 10 = true := hall 10 rfl
    have q11 : dn d 11 = true := hall 11 rfl
    have q12 : dn d 12 = true := hall 12 rfl
    have q13 : dn d 13 = true := hall 13 rfl
    have e10 : dv d 10 = ptr (pB (dv d 10)) 0 := H.factAt (k := 8) rfl (by rw [pp2x8e]; simp only [q10, cond_true])
    have e11 : dv d 11 = ptr (pB (dv d 11)) 0 := H.factAt (k := 9) rfl (by rw [pp2x9e]; simp only [q11, cond_true])
    have n6 : pp2x6 d = Hp.rec_ (pB (dv d 10)) [.int .i64 o, .int .i64 ((i.val : Nat) : Int)] := by rw [pp2x6e]; simp only [q10, q12, cond_true, cond_false]
    have n7 : pp2x7 d = Hp.rec_ (pB (dv d 11)) [.int .i64 ((i.val : Nat) : Int), .int .i64 o] := by rw [pp2x7e]; simp only [q11, q13, cond_true, cond_false]
    have n8 : pp2x8 d = Hp.pure (dv d 10 = ptr (pB (dv d 10)) 0) := by rw [pp2x8e]; simp only [q10, cond_true]
    have n9 : pp2x9 d = Hp.pure (dv d 11 = ptr (pB (dv d 11)) 0) := by rw [pp2x9e]; simp only [q11, cond_true]
    rw [n6, n7, n8, n9] at H
    clear n6 n7 n8 n9
    obtain ⟨z5, hz5⟩ : ∃ b, b = pB (dv d 10) := ⟨_, rfl⟩
    rw [← hz5] at e10 H
    have s10 := hf.add hf.slots 10 rfl rfl rfl q10 (v := ptr z5 0) e10
    obtain ⟨z6, hz6⟩ : ∃ b, b = pB (dv d 11) := ⟨_, rfl⟩
    rw [← hz6] at e11 H
    have s11 := hf.add s10 11 rfl rfl rfl q11 (v := ptr z6 0) e11
    refine Gx.use s11 H ?_
    refine Gx.drop 9 rfl ?_
    refine Gx.drop 8 rfl ?_
    refine Gx.norm (l' := [Hp.rec_ b1 [.int .i64 3, .int .i64 ((i.val : Nat) : Int), .int .i64 o], Hp.rec_ S [pv, .map (some mc), .map (some ma), .bool dn_], Hp.own FP 4 pv ps, Hp.map Try.prog 45 pairL vN mc ca, Hp.map Try.prog 45 pairL vN ma an, R, Hp.rec_ z5 [.int .i64 o, .int .i64 ((i.val : Nat) : Int)], Hp.rec_ z6 [.int .i64 ((i.val : Nat) : Int), .int .i64 o]]) rfl ?_
    refine Gx.thenN ?_
    refine Gx.seq ?_
    refine Gx.seq ?_
    refine Gx.region ?_
    refine Gx.val rfl rfl rfl (Val.cast (val_fieldAddr rfl Try.underlying32 rfl Try.ty3 rfl rfl) (v' := ptr b1 0) rfl) ?_
    refine Gx.val rfl rfl rfl (val_load rfl Try.ty3 rfl rfl (cell_rec (k := 0) rfl rfl)) ?_
    refine Gx.done ?_
    refine Gx.thenN ?_
    refine Gx.block ?_
    refine Gx.seq ?_
    refine Gx.seq ?_
    refine Gx.region ?_
    refine Gx.val rfl rfl rfl (Val.cast (val_eql rfl rfl rfl) (v' := .bool false) rfl) ?_
    refine Gx.val rfl rfl rfl (val_assign rfl rfl) ?_
    refine Gx.done ?_
    refine Gx.thenN ?_
    refine Gx.f rfl ?_
    refine Gx.region ?_
    refine Gx.val rfl rfl rfl (Val.cast (val_eql rfl rfl rfl) (v' := .bool true) rfl) ?_
    refine Gx.val rfl rfl rfl (val_assign rfl rfl) ?_
    refine Gx.done ?_
    refine Gx.thenN ?_
    refine Gx.t rfl ?_
    refine Gx.seq ?_
    refine Gx.seq ?_
    refine Gx.region ?_
    refine Gx.val rfl rfl rfl (val_move rfl rfl) ?_
    refine Gx.val rfl rfl rfl (val_nilCheck rfl rfl) ?_
    refine Gx.val rfl rfl rfl (Val.cast (val_fieldAddr rfl Try.underlying41 rfl Try.ty4 rfl rfl) (v' := ptr (sB pv) (sO pv + i.val * 4)) rfl) ?_
    refine Gx.val rfl rfl rfl (val_load rfl Try.ty4 rfl rfl (cell_own (i := 0) (k := 2) rfl hx rfl)) ?_
    refine Gx.val rfl rfl rfl (val_not rfl rfl) ?_
    refine Gx.done ?_
    refine Gx.thenN ?_
    refine Gx.boolF rfl (by rw [hworks]; rfl) ?_
    refine Gx.skip ?_
    refine Gx.thenN ?_
    refine Gx.seq ?_
    refine Gx.seq ?_
    refine Gx.region ?_
    refine Gx.val rfl rfl rfl (Val.cast (val_fieldAddr rfl Try.underlying32 rfl Try.ty3 rfl rfl) (v' := ptr b1 0) rfl) ?_
    refine Gx.val rfl rfl rfl (val_load rfl Try.ty3 rfl rfl (cell_rec (k := 0) rfl rfl)) ?_
    refine Gx.val rfl rfl rfl (Val.cast (val_eql rfl rfl rfl) (v' := .bool true) rfl) ?_
    refine Gx.done ?_
    refine Gx.thenN ?_
    refine Gx.t rfl ?_
    refine Gx.seq ?_
    refine Gx.region ?_
    refine Gx.val rfl rfl rfl (val_move rfl rfl) ?_
    refine Gx.val rfl rfl rfl (val_nilCheck rfl rfl) ?_
    refine Gx.val rfl rfl rfl (Val.cast (val_fieldAddr rfl Try.underlying41 rfl Try.ty4 rfl rfl) (v' := ptr (sB pv) (sO pv + i.val * 4)) rfl) ?_
    refine Gx.eff0 rfl rfl (eff_storeEl (i := 0) (e' := (⟨false, x.bound, x.to, x.owes⟩ : Pr)) rfl Try.ty4 rfl rfl rfl rfl (k := 2) rfl FP_len hx (by decide) (rfl) (l' := [Hp.rec_ b1 [.int .i64 3, .int .i64 ((i.val : Nat) : Int), .int .i64 o], Hp.rec_ S [pv, .map (some mc), .map (some ma), .bool dn_], Hp.own FP 4 pv (ps.set i.val (⟨false, x.bound, x.to, x.owes⟩ : Pr)), Hp.map Try.prog 45 pairL vN mc ca, Hp.map Try.prog 45 pairL vN ma an, R, Hp.rec_ z5 [.int .i64 o, .int .i64 ((i.val : Nat) : Int)], Hp.rec_ z6 [.int .i64 ((i.val : Nat) : Int), .int .i64 o]]) rfl) ?_
    rintro _ _ rfl
    refine Gx.done ?_
    refine Gx.thenN ?_
    refine Gx.seq ?_
    refine Gx.region ?_
    refine Gx.val rfl rfl rfl (val_assign rfl rfl) ?_
    refine Gx.done ?_
    refine Gx.thenN ?_
    refine Gx.ret ?_
    refine Gx.thenR ?_
    refine Gx.blkR ?_
    refine Gx.thenR ?_
    refine Gx.drop 7 rfl ?_
    refine Gx.drop 6 rfl ?_
    refine Gx.drop 0 rfl ?_
    refine Gx.ret1 Try.results11 rfl ?_
    exact ⟨rfl, sep4 _ _ _ _ _⟩

theorem take_none {W w : World} {S : Nat} {pv : Value} {mc ma : Nat} {ps : List Pr} {ca an : Cn} {dn_ : Bool} {R : Hp} {i j : Sm} {x : Pr} (hx : ps[i.val]? = some x) (rm : Rooms ca an x) (hc_ : cnt ca (j, i) = 0) (H : Sat W w (qAt S pv mc ma ps ca an dn_ R)) :
    Calls Try.prog 11 #[ptr S 0, .agg #[.int .i64 2, .int .i64 ((i.val : Nat) : Int), .int .i64 ((j.val : Nat) : Int)]] w (Ret W fun v l => v = .int .i64 5 ∧ sep l = qAt S pv mc ma ps ca an dn_ R) := by
  refine Gx.enter (l := [Hp.rec_ S [pv, .map (some mc), .map (some ma), .bool dn_], Hp.own FP 4 pv ps, Hp.map Try.prog 45 pairL vN mc ca, Hp.map Try.prog 45 pairL vN ma an, R]) Try.func11 rfl Try.ntmps11 rfl (H.frame4) ?_
  refine Gx.know (m' := [(0, ptr S 0), (1, .agg #[.int .i64 2, .int .i64 ((i.val : Nat) : Int), .int .i64 ((j.val : Nat) : Int)])]) (.cons rfl (.cons rfl .nil)) ?_
  have r1 := rm.c
  have r2 := rm.a
  have r3 := rm.lo
  have r4 := rm.hi
  refine Gx.seq ?_
  refine Gx.region ?_
  refine Gx.eff rfl rfl rfl (eff_box rfl rfl (vs := [.int .i64 2, .int .i64 ((i.val : Nat) : Int), .int .i64 ((j.val : Nat) : Int)]) rfl) ?_
  rintro _ _ ⟨b1, rfl, rfl⟩
  refine Gx.val rfl rfl rfl (val_assign rfl rfl) ?_
  refine Gx.done ?_
  refine Gx.thenN ?_
  refine Gx.seq ?_
  refine Gx.regionQ Try.mixed (by kernel_rfl) ?_
  refine Gq.val rfl rfl rfl (val_move rfl rfl) ?_
  refine Gq.val rfl rfl rfl (val_nilCheck rfl rfl) ?_
  refine Gq.val rfl rfl rfl (Val.cast (val_fieldAddr rfl Try.underlying39 rfl Try.ty36 rfl rfl) (v' := ptr S 0) rfl) ?_
  refine Gq.val rfl rfl rfl (val_load rfl Try.ty36 rfl rfl (cell_rec (k := 1) rfl rfl)) ?_
  refine Gq.val rfl rfl rfl (Val.cast (val_fieldAddr rfl Try.underlying32 rfl Try.ty3 rfl rfl) (v' := ptr b1 1) rfl) ?_
  refine Gq.val rfl rfl rfl (val_load rfl Try.ty3 rfl rfl (cell_rec (k := 0) rfl rfl)) ?_
  refine Gq.val rfl rfl rfl (val_ixa rfl Try.underlying36 Try.ty41 rfl rfl (j := i.val) (rfl) (reach_own (k := 2) rfl hx)) ?_
  refine Gq.val rfl rfl rfl (val_assign rfl rfl) ?_
  refine Gq.done ?_
  refine Gx.thenN ?_
  refine Gx.seq ?_
  -- region 2, in whatever order
  refine Gx.ones 4 (Gx.norm (l' := [Hp.rec_ b1 [.int .i64 2, .int .i64 ((i.val : Nat) : Int), .int .i64 ((j.val : Nat) : Int)], Hp.rec_ S [pv, .map (some mc), .map (some ma), .bool dn_], Hp.own FP 4 pv ps, Hp.map Try.prog 45 pairL vN mc ca, Hp.map Try.prog 45 pairL vN ma an, R, 1, 1, 1, 1]) rfl ?_)
  obtain ⟨pp2x6, pp2x6e⟩ : ∃ p : Done → Hp, p = fun d => cond (dn d 12) (Hp.rec_ (pB (dv d 10)) [.int .i64 ((j.val : Nat) : Int), .int .i64 ((i.val : Nat) : Int)]) (cond (dn d 10) (Hp.rec_ (pB (dv d 10)) [.int .i64 0, .int .i64 0]) (1)) := ⟨_, rfl⟩
  obtain ⟨pp2x7, pp2x7e⟩ : ∃ p : Done → Hp, p = fun d => cond (dn d 13) (Hp.rec_ (pB (dv d 11)) [.int .i64 ((i.val : Nat) : Int), .int .i64 ((j.val : Nat) : Int)]) (cond (dn d 11) (Hp.rec_ (pB (dv d 11)) [.int .i64 0, .int .i64 0]) (1)) := ⟨_, rfl⟩
  obtain ⟨pp2x8, pp2x8e⟩ : ∃ p : Done → Hp, p = fun d => cond (dn d 10) (Hp.pure (dv d 10 = ptr (pB (dv d 10)) 0)) 1 := ⟨_, rfl⟩
  obtain ⟨pp2x9, pp2x9e⟩ : ∃ p : Done → Hp, p = fun d => cond (dn d 11) (Hp.pure (dv d 11 = ptr (pB (dv d 11)) 0)) 1 := ⟨_, rfl⟩
  refine Gx.regionF [10, 11, 12, 13] [0, 1, 2, 3, 4, 5, 6, 7, 8, 9] (fun ιi => cond (Nat.beq ιi 8) [Hp.rec_ b1 [.int .i64 2, .int .i64 ((i.val : Nat) : Int), .int .i64 ((j.val : Nat) : Int)]] (cond (Nat.beq ιi 6) [Hp.rec_ b1 [.int .i64 2, .int .i64 ((i.val : Nat) : Int), .int .i64 ((j.val : Nat) : Int)]] (cond (Nat.beq ιi 3) [Hp.rec_ b1 [.int .i64 2, .int .i64 ((i.val : Nat) : Int), .int .i64 ((j.val : Nat) : Int)]] (cond (Nat.beq ιi 1) [Hp.rec_ b1 [.int .i64 2, .int .i64 ((i.val : Nat) : Int), .int .i64 ((j.val : Nat) : Int)]] ([]))))) (fun d => [Hp.rec_ b1 [.int .i64 2, .int .i64 ((i.val : Nat) : Int), .int .i64 ((j.val : Nat) : Int)], Hp.rec_ S [pv, .map (some mc), .map (some ma), .bool dn_], Hp.own FP 4 pv ps, Hp.map Try.prog 45 pairL vN mc ca, Hp.map Try.prog 45 pairL vN ma an, R, pp2x6 d, pp2x7 d, pp2x8 d, pp2x9 d]) Try.mixed (by kernel_rfl) (by kernel_rfl) (by rw [pp2x6e]; rw [pp2x7e]; rw [pp2x8e]; rw [pp2x9e]; rfl) ?_ ?_
  · intro ιi d w hc hs H
    by_cases hn1 : ιi = 1
    · subst hn1
      exact H.only (k := 0) rfl rfl
    · by_cases hn3 : ιi = 3
      · subst hn3
        exact H.only (k := 0) rfl rfl
      · by_cases hn6 : ιi = 6
        · subst hn6
          exact H.only (k := 0) rfl rfl
        · by_cases hn8 : ιi = 8
          · subst hn8
            exact H.only (k := 0) rfl rfl
          · refine Sat.listed (l := []) H.noneL ?_
            simp only [beq_no hn1, beq_no hn3, beq_no hn6, beq_no hn8, cond_false]
  refine Gp.val rfl rfl rfl rfl (Val.cast (val_fieldAddr rfl Try.underlying32 rfl Try.ty3 rfl rfl) (v' := ptr b1 2) rfl) ?_
  refine Gp.val rfl rfl rfl rfl (val_load rfl Try.ty3 rfl rfl (cell_rec (k := 0) rfl rfl)) ?_
  refine Gp.val rfl rfl rfl rfl (Val.cast (val_fieldAddr rfl Try.underlying32 rfl Try.ty3 rfl rfl) (v' := ptr b1 1) rfl) ?_
  refine Gp.val rfl rfl rfl rfl (val_load rfl Try.ty3 rfl rfl (cell_rec (k := 0) rfl rfl)) ?_
  refine Gp.val rfl rfl rfl rfl (val_build rfl (qs := [(0, .int .i64 ((j.val : Nat) : Int)), (1, .int .i64 ((i.val : Nat) : Int))]) rfl rfl (fun w => by go_simp) (v := .agg #[.int .i64 ((j.val : Nat) : Int), .int .i64 ((i.val : Nat) : Int)])) ?_
  refine Gp.val rfl rfl rfl rfl (Val.cast (val_fieldAddr rfl Try.underlying32 rfl Try.ty3 rfl rfl) (v' := ptr b1 1) rfl) ?_
  refine Gp.val rfl rfl rfl rfl (val_load rfl Try.ty3 rfl rfl (cell_rec (k := 0) rfl rfl)) ?_
  refine Gp.val rfl rfl rfl rfl (Val.cast (val_fieldAddr rfl Try.underlying32 rfl Try.ty3 rfl rfl) (v' := ptr b1 2) rfl) ?_
  refine Gp.val rfl rfl rfl rfl (val_load rfl Try.ty3 rfl rfl (cell_rec (k := 0) rfl rfl)) ?_
  refine Gp.val rfl rfl rfl rfl (val_build rfl (qs := [(0, .int .i64 ((i.val : Nat) : Int)), (1, .int .i64 ((j.val : Nat) : Int))]) rfl rfl (fun w => by go_simp) (v := .agg #[.int .i64 ((i.val : Nat) : Int), .int .i64 ((j.val : Nat) : Int)])) ?_
  refine Gp.done (uniq_of (by kernel_rfl)) (by rfl) (by kernel_rfl) ⟨⟨_, rfl, ?_⟩, ⟨_, rfl, ?_⟩, ⟨_, rfl, ?_⟩, ⟨_, rfl, ?_⟩, trivial⟩ ?_
  · intro d hc hdi hpre a w hf H
    change Sat _ _ (sep [Hp.rec_ b1 [.int .i64 2, .int .i64 ((i.val : Nat) : Int), .int .i64 ((j.val : Nat) : Int)], Hp.rec_ S [pv, .map (some mc), .map (some ma), .bool dn_], Hp.own FP 4 pv ps, Hp.map Try.prog 45 pairL vN mc ca, Hp.map Try.prog 45 pairL vN ma an, R, pp2x6 d, pp2x7 d, pp2x8 d, pp2x9 d]) at H
    have q10 := hdi
    have q12 : dn d 12 = false := hc.not 12 10 rfl (by kernel_rfl) q10
    have q13 : dn d 13 = false := hc.not 13 10 rfl (by kernel_rfl) q10
    have n6 : pp2x6 d = 1 := by rw [pp2x6e]; simp only [q10, q12, cond_true, cond_false]
    have n8 : pp2x8 d = 1 := by rw [pp2x8e]; simp only [q10, cond_true, cond_false]
    rw [n6, n8] at H
    refine EffAt.mono (Eff.at_ hf.slots H (eff_alloc rfl Try.ty45 (vs := [.int .i64 0, .int .i64 0]) rfl)) ?_
    rintro _ w2 ⟨_, ⟨b3, rfl, rfl⟩, H2⟩
    have H2 := Sat.fillAt H2 (k := 6) rfl
    have H2 := (Sat.pureI (p := ptr b3 0 = ptr b3 0) rfl H2).fillAt (k := 8) rfl
    obtain ⟨d2, hd2⟩ : ∃ d2, d2 = upd d 10 (ptr b3 0) := ⟨_, rfl⟩
    have m10 : dn d2 10 = true := by rw [hd2]; rfl
    have m12 : dn d2 12 = false := by rw [hd2]; exact q12
    have m13 : dn d2 13 = false := by rw [hd2]; exact q13
    rw [← hd2]
    change Sat _ _ (sep [Hp.rec_ b1 [.int .i64 2, .int .i64 ((i.val : Nat) : Int), .int .i64 ((j.val : Nat) : Int)], Hp.rec_ S [pv, .map (some mc), .map (some ma), .bool dn_], Hp.own FP 4 pv ps, Hp.map Try.prog 45 pairL vN mc ca, Hp.map Try.prog 45 pairL vN ma an, R, pp2x6 d2, pp2x7 d2, pp2x8 d2, pp2x9 d2])
    have u6 := congrFun pp2x6e d2
    simp only [m10, m12, cond_true, cond_false] at u6
    have u7 : pp2x7 d2 = pp2x7 d := by rw [hd2, pp2x7e]; rfl
    have u8 := congrFun pp2x8e d2
    simp only [m10, cond_true, cond_false] at u8
    have u9 : pp2x9 d2 = pp2x9 d := by rw [hd2, pp2x9e]; rfl
    rw [u6, u7, u8, u9]
    subst hd2
    exact H2
  · intro d hc hdi hpre a w hf H
    change Sat _ _ (sep [Hp.rec_ b1 [.int .i64 2, .int .i64 ((i.val : Nat) : Int), .int .i64 ((j.val : Nat) : Int)], Hp.rec_ S [pv, .map (some mc), .map (some ma), .bool dn_], Hp.own FP 4 pv ps, Hp.map Try.prog 45 pairL vN mc ca, Hp.map Try.prog 45 pairL vN ma an, R, pp2x6 d, pp2x7 d, pp2x8 d, pp2x9 d]) at H
    have q11 := hdi
    have q12 : dn d 12 = false := hc.not 12 11 rfl (by kernel_rfl) q11
    have q13 : dn d 13 = false := hc.not 13 11 rfl (by kernel_rfl) q11
    have n7 : pp2x7 d = 1 := by rw [pp2x7e]; simp only [q11, q13, cond_true, cond_false]
    have n9 : pp2x9 d = 1 := by rw [pp2x9e]; simp only [q11, cond_true, cond_false]
    rw [n7, n9] at H
    refine EffAt.mono (Eff.at_ hf.slots H (eff_alloc rfl Try.ty45 (vs := [.int .i64 0, .int .i64 0]) rfl)) ?_
    rintro _ w2 ⟨_, ⟨b4, rfl, rfl⟩, H2⟩
    have H2 := Sat.fillAt H2 (k := 7) rfl
    have H2 := (Sat.pureI (p := ptr b4 0 = ptr b4 0) rfl H2).fillAt (k := 9) rfl
    obtain ⟨d2, hd2⟩ : ∃ d2, d2 = upd d 11 (ptr b4 0) := ⟨_, rfl⟩
    have m11 : dn d2 11 = true := by rw [hd2]; rfl
    have m12 : dn d2 12 = false := by rw [hd2]; exact q12
    have m13 : dn d2 13 = false := by rw [hd2]; exact q13
    rw [← hd2]
    change Sat _ _ (sep [Hp.rec_ b1 [.int .i64 2, .int .i64 ((i.val : Nat) : Int), .int .i64 ((j.val : Nat) : Int)], Hp.rec_ S [pv, .map (some mc), .map (some ma), .bool dn_], Hp.own FP 4 pv ps, Hp.map Try.prog 45 pairL vN mc ca, Hp.map Try.prog 45 pairL vN ma an, R, pp2x6 d2, pp2x7 d2, pp2x8 d2, pp2x9 d2])
    have u6 : pp2x6 d2 = pp2x6 d := by rw [hd2, pp2x6e]; rfl
    have u7 := congrFun pp2x7e d2
    simp only [m11, m13, cond_true, cond_false] at u7
    have u8 : pp2x8 d2 = pp2x8 d := by rw [hd2, pp2x8e]; rfl
    have u9 := congrFun pp2x9e d2
    simp only [m11, cond_true, cond_false] at u9
    rw [u6, u7, u8, u9]
    subst hd2
    exact H2
  · intro d hc hdi hpre a w hf H
    change Sat _ _ (sep [Hp.rec_ b1 [.int .i64 2, .int .i64 ((i.val : Nat) : Int), .int .i64 ((j.val : Nat) : Int)], Hp.rec_ S [pv, .map (some mc), .map (some ma), .bool dn_], Hp.own FP 4 pv ps, Hp.map Try.prog 45 pairL vN mc ca, Hp.map Try.prog 45 pairL vN ma an, R, pp2x6 d, pp2x7 d, pp2x8 d, pp2x9 d]) at H
    have q10 : dn d 10 = true := hpre 10 (by kernel_rfl)
    have q10 : dn d 10 = true := hpre 10 (by kernel_rfl)
    have q11 : dn d 11 = true := hpre 11 (by kernel_rfl)
    have q12 := hdi
    have q13 : dn d 13 = false := hc.not 13 12 rfl (by kernel_rfl) q12
    have e10 : dv d 10 = ptr (pB (dv d 10)) 0 := H.factAt (k := 8) rfl (by rw [pp2x8e]; simp only [q10, cond_true])
    have e11 : dv d 11 = ptr (pB (dv d 11)) 0 := H.factAt (k := 9) rfl (by rw [pp2x9e]; simp only [q11, cond_true])
    have n6 : pp2x6 d = Hp.rec_ (pB (dv d 10)) [.int .i64 0, .int .i64 0] := by rw [pp2x6e]; simp only [q10, q12, cond_true, cond_false]
    have n7 : pp2x7 d = Hp.rec_ (pB (dv d 11)) [.int .i64 0, .int .i64 0] := by rw [pp2x7e]; simp only [q11, q13, cond_true, cond_false]
    rw [n6, n7] at H
    have s10 := hf.add hf.slots 10 rfl (by kernel_rfl) rfl q10 (v := ptr (pB (dv d 10)) 0) e10
    refine EffAt.mono (Eff.at_ s10 H (eff_store rfl Try.ty45 rfl rfl (us := [.int .i64 ((j.val : Nat) : Int), .int .i64 ((i.val : Nat) : Int)]) rfl rfl rfl (k := 6) rfl rfl (vs' := [.int .i64 ((j.val : Nat) : Int), .int .i64 ((i.val : Nat) : Int)]) rfl (l' := [Hp.rec_ b1 [.int .i64 2, .int .i64 ((i.val : Nat) : Int), .int .i64 ((j.val : Nat) : Int)], Hp.rec_ S [pv, .map (some mc), .map (some ma), .bool dn_], Hp.own FP 4 pv ps, Hp.map Try.prog 45 pairL vN mc ca, Hp.map Try.prog 45 pairL vN ma an, R, Hp.rec_ (pB (dv d 10)) [.int .i64 ((j.val : Nat) : Int), .int .i64 ((i.val : Nat) : Int)], Hp.rec_ (pB (dv d 11)) [.int .i64 0, .int .i64 0], pp2x8 d, pp2x9 d]) rfl)) ?_
    rintro v w2 ⟨_, rfl, H2⟩
    obtain ⟨d2, hd2⟩ : ∃ d2, d2 = upd d 12 v := ⟨_, rfl⟩
    have m12 : dn d2 12 = true := by rw [hd2]; rfl
    have m10 : dn d2 10 = true := by rw [hd2]; exact q10
    have m11 : dn d2 11 = true := by rw [hd2]; exact q11
    have m13 : dn d2 13 = false := by rw [hd2]; exact q13
    rw [← hd2]
    change Sat _ _ (sep [Hp.rec_ b1 [.int .i64 2, .int .i64 ((i.val : Nat) : Int), .int .i64 ((j.val : Nat) : Int)], Hp.rec_ S [pv, .map (some mc), .map (some ma), .bool dn_], Hp.own FP 4 pv ps, Hp.map Try.prog 45 pairL vN mc ca, Hp.map Try.prog 45 pairL vN ma an, R, pp2x6 d2, pp2x7 d2, pp2x8 d2, pp2x9 d2])
    have u6 := congrFun pp2x6e d2
    simp only [m10, m12, cond_true, cond_false] at u6
    have u7 := congrFun pp2x7e d2
    simp only [m11, m13, cond_true, cond_false] at u7
    have u8 : pp2x8 d2 = pp2x8 d := by rw [hd2, pp2x8e]; rfl
    have u9 : pp2x9 d2 = pp2x9 d := by rw [hd2, pp2x9e]; rfl
    rw [u6, u7, u8, u9]
    subst hd2
    exact H2
  · intro d hc hdi hpre a w hf H
    change Sat _ _ (sep [Hp.rec_ b1 [.int .i64 2, .int .i64 ((i.val : Nat) : Int), .int .i64 ((j.val : Nat) : Int)], Hp.rec_ S [pv, .map (some mc), .map (some ma), .bool dn_], Hp.own FP 4 pv ps, Hp.map Try.prog 45 pairL vN mc ca, Hp.map Try.prog 45 pairL vN ma an, R, pp2x6 d, pp2x7 d, pp2x8 d, pp2x9 d]) at H
    have q11 : dn d 11 = true := hpre 11 (by kernel_rfl)
    have q12 : dn d 12 = true := hpre 12 (by kernel_rfl)
    have q10 : dn d 10 = true := hpre 10 (by kernel_rfl)
    have q11 : dn d 11 = true := hpre 11 (by kernel_rfl)
    have q12 : dn d 12 = true := hpre 12 (by kernel_rfl)
    have q13 := hdi
    have e11 : dv d 11 = ptr (pB (dv d 11)) 0 := H.factAt (k := 9) rfl (by rw [pp2x9e]; simp only [q11, cond_true])
    have e10 : dv d 10 = ptr (pB (dv d 10)) 0 := H.factAt (k := 8) rfl (by rw [pp2x8e]; simp only [q10, cond_true])
    have n6 : pp2x6 d = Hp.rec_ (pB (dv d 10)) [.int .i64 ((j.val : Nat) : Int), .int .i64 ((i.val : Nat) : Int)] := by rw [pp2x6e]; simp only [q10, q12, cond_true, cond_false]
    have n7 : pp2x7 d = Hp.rec_ (pB (dv d 11)) [.int .i64 0, .int .i64 0] := by rw [pp2x7e]; simp only [q11, q13, cond_true, cond_false]
    rw [n6, n7] at H
    have s11 := hf.add hf.slots 11 rfl (by kernel_rfl) rfl q11 (v := ptr (pB (dv d 11)) 0) e11
    refine EffAt.mono (Eff.at_ s11 H (eff_store rfl Try.ty45 rfl rfl (us := [.int .i64 ((i.val : Nat) : Int), .int .i64 ((j.val : Nat) : Int)]) rfl rfl rfl (k := 7) rfl rfl (vs' := [.int .i64 ((i.val : Nat) : Int), .int .i64 ((j.val : Nat) : Int)]) rfl (l' := [Hp.rec_ b1 [.int .i64 2, .int .i64 ((i.val : Nat) : Int), .int .i64 ((j.val : Nat) : Int)], Hp.rec_ S [pv, .map (some mc), .map (some ma), .bool dn_], Hp.own FP 4 pv ps, Hp.map Try.prog 45 pairL vN mc ca, Hp.map Try.prog 45 pairL vN ma an, R, Hp.rec_ (pB (dv d 10)) [.int .i64 ((j.val : Nat) : Int), .int .i64 ((i.val : Nat) : Int)], Hp.rec_ (pB (dv d 11)) [.int .i64 ((i.val : Nat) : Int), .int .i64 ((j.val : Nat) : Int)], pp2x8 d, pp2x9 d]) rfl)) ?_
    rintro v w2 ⟨_, rfl, H2⟩
    obtain ⟨d2, hd2⟩ : ∃ d2, d2 = upd d 13 v := ⟨_, rfl⟩
    have m13 : dn d2 13 = true := by rw [hd2]; rfl
    have m11 : dn d2 11 = true := by rw [hd2]; exact q11
    have m12 : dn d2 12 = true := by rw [hd2]; exact q12
    have m10 : dn d2 10 = true := by rw [hd2]; exact q10
    rw [← hd2]
    change Sat _ _ (sep [Hp.rec_ b1 [.int .i64 2, .int .i64 ((i.val : Nat) : Int), .int .i64 ((j.val : Nat) : Int)], Hp.rec_ S [pv, .map (some mc), .map (some ma), .bool dn_], Hp.own FP 4 pv ps, Hp.map Try.prog 45 pairL vN mc ca, Hp.map Try.prog 45 pairL vN ma an, R, pp2x6 d2, pp2x7 d2, pp2x8 d2, pp2x9 d2])
    have u6 := congrFun pp2x6e d2
    simp only [m10, m12, cond_true, cond_false] at u6
    have u7 := congrFun pp2x7e d2
    simp only [m11, m13, cond_true, cond_false] at u7
    have u8 : pp2x8 d2 = pp2x8 d := by rw [hd2, pp2x8e]; rfl
    have u9 : pp2x9 d2 = pp2x9 d := by rw [hd2, pp2x9e]; rfl
    rw [u6, u7, u8, u9]
    subst hd2
    exact H2
  · intro d hc hall a hf w H
    change Sat _ _ (sep [Hp.rec_ b1 [.int .i64 2, .int .i64 ((i.val : Nat) : Int), .int .i64 ((j.val : Nat) : Int)], Hp.rec_ S [pv, .map (some mc), .map (some ma), .bool dn_], Hp.own FP 4 pv ps, Hp.map Try.prog 45 pairL vN mc ca, Hp.map Try.prog 45 pairL vN ma an, R, pp2x6 d, pp2x7 d, pp2x8 d, pp2x9 d]) at H
    have q10 : dn d 10 = true := hall 10 rfl
    have q11 : dn d 11 = true := hall 11 rfl
    have q12 : dn d 12 = true := hall 12 rfl
    have q13 : dn d 13 = true := hall 13 rfl
    have e10 : dv d 10 = ptr (pB (dv d 10)) 0 := H.factAt (k := 8) rfl (by rw [pp2x8e]; simp only [q10, cond_true])
    have e11 : dv d 11 = ptr (pB (dv d 11)) 0 := H.factAt (k := 9) rfl (by rw [pp2x9e]; simp only [q11, cond_true])
    have n6 : pp2x6 d = Hp.rec_ (pB (dv d 10)) [.int .i64 ((j.val : Nat) : Int), .int .i64 ((i.val : Nat) : Int)] := by rw [pp2x6e]; simp only [q10, q12, cond_true, cond_false]
    have n7 : pp2x7 d = Hp.rec_ (pB (dv d 11)) [.int .i64 ((i.val : Nat) : Int), .int .i64 ((j.val : Nat) : Int)] := by rw [pp2x7e]; simp only [q11, q13, cond_true, cond_false]
    have n8 : pp2x8 d = Hp.pure (dv d 10 = ptr (pB (dv d 10)) 0) := by rw [pp2x8e]; simp only [q10, cond_true]
    have n9 : pp2x9 d = Hp.pure (dv d 11 = ptr (pB (dv d 11)) 0) := by rw [pp2x9e]; simp only [q11, cond_true]
    rw [n6, n7, n8, n9] at H
    clear n6 n7 n8 n9
    obtain ⟨z5, hz5⟩ : ∃ b, b = pB (dv d 10) := ⟨_, rfl⟩
    rw [← hz5] at e10 H
    have s10 := hf.add hf.slots 10 rfl rfl rfl q10 (v := ptr z5 0) e10
    obtain ⟨z6, hz6⟩ : ∃ b, b = pB (dv d 11) := ⟨_, rfl⟩
    rw [← hz6] at e11 H
    have s11 := hf.add s10 11 rfl rfl rfl q11 (v := ptr z6 0) e11
    refine Gx.use s11 H ?_
    refine Gx.drop 9 rfl ?_
    refine Gx.drop 8 rfl ?_
    refine Gx.norm (l' := [Hp.rec_ b1 [.int .i64 2, .int .i64 ((i.val : Nat) : Int), .int .i64 ((j.val : Nat) : Int)], Hp.rec_ S [pv, .map (some mc), .map (some ma), .bool dn_], Hp.own FP 4 pv ps, Hp.map Try.prog 45 pairL vN mc ca, Hp.map Try.prog 45 pairL vN ma an, R, Hp.rec_ z5 [.int .i64 ((j.val : Nat) : Int), .int .i64 ((i.val : Nat) : Int)], Hp.rec_ z6 [.int .i64 ((i.val : Nat) : Int), .int .i64 ((j.val : Nat) : Int)]]) rfl ?_
    refine Gx.thenN ?_
    refine Gx.seq ?_
    refine Gx.seq ?_
    refine Gx.region ?_
    refine Gx.val rfl rfl rfl (Val.cast (val_fieldAddr rfl Try.underlying32 rfl Try.ty3 rfl rfl) (v' := ptr b1 0) rfl) ?_
    refine Gx.val rfl rfl rfl (val_load rfl Try.ty3 rfl rfl (cell_rec (k := 0) rfl rfl)) ?_
    refine Gx.done ?_
    refine Gx.thenN ?_
    refine Gx.block ?_
    refine Gx.seq ?_
    refine Gx.seq ?_
    refine Gx.region ?_
    refine Gx.val rfl rfl rfl (Val.cast (val_eql rfl rfl rfl) (v' := .bool false) rfl) ?_
    refine Gx.val rfl rfl rfl (val_assign rfl rfl) ?_
    refine Gx.done ?_
    refine Gx.thenN ?_
    refine Gx.f rfl ?_
    refine Gx.region ?_
    refine Gx.val rfl rfl rfl (Val.cast (val_eql rfl rfl rfl) (v' := .bool false) rfl) ?_
    refine Gx.val rfl rfl rfl (val_assign rfl rfl) ?_
    refine Gx.done ?_
    refine Gx.thenN ?_
    refine Gx.f rfl ?_
    refine Gx.seq ?_
    refine Gx.region ?_
    refine Gx.val rfl rfl rfl (Val.cast (val_eql rfl rfl rfl) (v' := .bool true) rfl) ?_
    refine Gx.val rfl rfl rfl (val_assign rfl rfl) ?_
    refine Gx.done ?_
    refine Gx.thenN ?_
    refine Gx.t rfl ?_
    refine Gx.seq ?_
    refine Gx.seq ?_
    refine Gx.regionO (fun j => j == 5) 6 [0, 1, 2, 3, 4, 5] (fun us => match us with | [] => [Hp.rec_ b1 [.int .i64 2, .int .i64 ((i.val : Nat) : Int), .int .i64 ((j.val : Nat) : Int)], Hp.rec_ S [pv, .map (some mc), .map (some ma), .bool dn_], Hp.own FP 4 pv ps, Hp.map Try.prog 45 pairL vN mc ca, Hp.map Try.prog 45 pairL vN ma an, R, Hp.rec_ z5 [.int .i64 ((j.val : Nat) : Int), .int .i64 ((i.val : Nat) : Int)], Hp.rec_ z6 [.int .i64 ((i.val : Nat) : Int), .int .i64 ((j.val : Nat) : Int)]] | u1 :: _ => [Hp.map Try.prog 45 pairL vN mc ca, Hp.rec_ b1 [.int .i64 2, .int .i64 ((i.val : Nat) : Int), .int .i64 ((j.val : Nat) : Int)], Hp.rec_ S [pv, .map (some mc), .map (some ma), .bool dn_], Hp.own FP 4 pv ps, Hp.map Try.prog 45 pairL vN ma an, R, Hp.rec_ z5 [.int .i64 ((j.val : Nat) : Int), .int .i64 ((i.val : Nat) : Int)], Hp.rec_ z6 [.int .i64 ((i.val : Nat) : Int), .int .i64 ((j.val : Nat) : Int)]]) Try.mixed (by kernel_rfl) rfl ?_
    refine Gw.val rfl rfl rfl rfl rfl (fun us => val_move rfl rfl) ?_
    refine Gw.val rfl rfl rfl rfl rfl (fun us => val_nilCheck rfl rfl) ?_
    refine Gw.val rfl rfl rfl rfl rfl (fun us => Val.cast (val_fieldAddr rfl Try.underlying39 rfl Try.ty37 rfl rfl) (v' := ptr S 1) rfl) ?_
    refine Gw.val0 rfl rfl rfl (by kernel_rfl) rfl rfl (val_load rfl Try.ty37 rfl rfl (cell_rec (k := 1) rfl rfl)) ?_
    refine Gw.val0 rfl rfl rfl (by kernel_rfl) rfl rfl (Val.cast (val_loadA rfl Try.ty45 rfl rfl rfl (cells_rec (k := 6) rfl)) (v' := .agg #[.int .i64 ((j.val : Nat) : Int), .int .i64 ((i.val : Nat) : Int)]) rfl) ?_
    refine Gw.chg rfl rfl rfl rfl rfl (fun v => v = .bool false) (eff_call (vs := [.map (some mc), .agg #[.int .i64 ((j.val : Nat) : Int), .int .i64 ((i.val : Nat) : Int)]]) rfl Try.fn13 rfl (fun w H => arrive_no hc_ rm.c (rm.cc _) (H.at_ (k := 3) rfl))) ?_
    rintro _ rfl
    refine Gw.done ?_
    refine Gx.norm (l' := [Hp.map Try.prog 45 pairL vN mc ca, Hp.rec_ b1 [.int .i64 2, .int .i64 ((i.val : Nat) : Int), .int .i64 ((j.val : Nat) : Int)], Hp.rec_ S [pv, .map (some mc), .map (some ma), .bool dn_], Hp.own FP 4 pv ps, Hp.map Try.prog 45 pairL vN ma an, R, Hp.rec_ z5 [.int .i64 ((j.val : Nat) : Int), .int .i64 ((i.val : Nat) : Int)], Hp.rec_ z6 [.int .i64 ((i.val : Nat) : Int), .int .i64 ((j.val : Nat) : Int)]]) rfl ?_
    refine Gx.val rfl rfl rfl (Val.cast (val_not rfl rfl) (v' := .bool true) rfl) ?_
    refine Gx.done ?_
    refine Gx.thenN ?_
    refine Gx.t rfl ?_
    refine Gx.seq ?_
    refine Gx.region ?_
    refine Gx.val rfl rfl rfl (val_assign rfl rfl) ?_
    refine Gx.done ?_
    refine Gx.thenN ?_
    refine Gx.ret ?_
    refine Gx.thenR ?_
    refine Gx.blkR ?_
    refine Gx.thenR ?_
    refine Gx.drop 7 rfl ?_
    refine Gx.drop 6 rfl ?_
    refine Gx.drop 1 rfl ?_
    refine Gx.front 4 rfl ?_
    refine Gx.front 4 rfl ?_
    refine Gx.front 2 rfl ?_
    refine Gx.front 4 rfl ?_
    refine Gx.front 4 rfl ?_
    refine Gx.ret1 Try.results11 rfl ?_
    exact ⟨rfl, sep4 _ _ _ _ _⟩

theorem take_bound {W w : World} {S : Nat} {pv : Value} {mc ma : Nat} {ps : List Pr} {ca an : Cn} {dn_ : Bool} {R : Hp} {i j : Sm} {x : Pr} (hx : ps[i.val]? = some x) (rm : Rooms ca an x) (hc_ : cnt ca (j, i) ≠ 0) (hbound : x.bound = true) (H : Sat W w (qAt S pv mc ma ps ca an dn_ R)) :
    Calls Try.prog 11 #[ptr S 0, .agg #[.int .i64 2, .int .i64 ((i.val : Nat) : Int), .int .i64 ((j.val : Nat) : Int)]] w (Ret W fun v l => v = .int .i64 0 ∧ sep l = qAt S pv mc ma (ps.set i.val (⟨true, x.bound, x.to, x.owes⟩ : Pr)) (dec ca (j, i)) (inc an (i, j)) dn_ R) := by
  refine Gx.enter (l := [Hp.rec_ S [pv, .map (some mc), .map (some ma), .bool dn_], Hp.own FP 4 pv ps, Hp.map Try.prog 45 pairL vN mc ca, Hp.map Try.prog 45 pairL vN ma an, R]) Try.func11 rfl Try.ntmps11 rfl (H.frame4) ?_
  refine Gx.know (m' := [(0, ptr S 0), (1, .agg #[.int .i64 2, .int .i64 ((i.val : Nat) : Int), .int .i64 ((j.val : Nat) : Int)])]) (.cons rfl (.cons rfl .nil)) ?_
  have r1 := rm.c
  have r2 := rm.a
  have r3 := rm.lo
  have r4 := rm.hi
  refine Gx.seq ?_
  refine Gx.region ?_
  refine Gx.eff rfl rfl rfl (eff_box rfl rfl (vs := [.int .i64 2, .int .i64 ((i.val : Nat) : Int), .int .i64 ((j.val : Nat) : Int)]) rfl) ?_
  rintro _ _ ⟨b1, rfl, rfl⟩
  refine Gx.val rfl rfl rfl (val_assign rfl rfl) ?_
  refine Gx.done ?_
  refine Gx.thenN ?_
  refine Gx.seq ?_
  refine Gx.regionQ Try.mixed (by kernel_rfl) ?_
  refine Gq.val rfl rfl rfl (val_move rfl rfl) ?_
  refine Gq.val rfl rfl rfl (val_nilCheck rfl rfl) ?_
  refine Gq.val rfl rfl rfl (Val.cast (val_fieldAddr rfl Try.underlying39 rfl Try.ty36 rfl rfl) (v' := ptr S 0) rfl) ?_
  refine Gq.val rfl rfl rfl (val_load rfl Try.ty36 rfl rfl (cell_rec (k := 1) rfl rfl)) ?_
  refine Gq.val rfl rfl rfl (Val.cast (val_fieldAddr rfl Try.underlying32 rfl Try.ty3 rfl rfl) (v' := ptr b1 1) rfl) ?_
  refine Gq.val rfl rfl rfl (val_load rfl Try.ty3 rfl rfl (cell_rec (k := 0) rfl rfl)) ?_
  refine Gq.val rfl rfl rfl (val_ixa rfl Try.underlying36 Try.ty41 rfl rfl (j := i.val) (rfl) (reach_own (k := 2) rfl hx)) ?_
  refine Gq.val rfl rfl rfl (val_assign rfl rfl) ?_
  refine Gq.done ?_
  refine Gx.thenN ?_
  refine Gx.seq ?_
  -- region 2, in whatever order
  refine Gx.ones 4 (Gx.norm (l' := [Hp.rec_ b1 [.int .i64 2, .int .i64 ((i.val : Nat) : Int), .int .i64 ((j.val : Nat) : Int)], Hp.rec_ S [pv, .map (some mc), .map (some ma), .bool dn_], Hp.own FP 4 pv ps, Hp.map Try.prog 45 pairL vN mc ca, Hp.map Try.prog 45 pairL vN ma an, R, 1, 1, 1, 1]) rfl ?_)
  obtain ⟨pp2x6, pp2x6e⟩ : ∃ p : Done → Hp, p = fun d => cond (dn d 12) (Hp.rec_ (pB (dv d 10)) [.int .i64 ((j.val : Nat) : Int), .int .i64 ((i.val : Nat) : Int)]) (cond (dn d 10) (Hp.rec_ (pB (dv d 10)) [.int .i64 0, .int .i64 0]) (1)) := ⟨_, rfl⟩
  obtain ⟨pp2x7, pp2x7e⟩ : ∃ p : Done → Hp, p = fun d => cond (dn d 13) (Hp.rec_ (pB (dv d 11)) [.int .i64 ((i.val : Nat) : Int), .int .i64 ((j.val : Nat) : Int)]) (cond (dn d 11) (Hp.rec_ (pB (dv d 11)) [.int .i64 0, .int .i64 0]) (1)) := ⟨_, rfl⟩
  obtain ⟨pp2x8, pp2x8e⟩ : ∃ p : Done → Hp, p = fun d => cond (dn d 10) (Hp.pure (dv d 10 = ptr (pB (dv d 10)) 0)) 1 := ⟨_, rfl⟩
  obtain ⟨pp2x9, pp2x9e⟩ : ∃ p : Done → Hp, p = fun d => cond (dn d 11) (Hp.pure (dv d 11 = ptr (pB (dv d 11)) 0)) 1 := ⟨_, rfl⟩
  refine Gx.regionF [10, 11, 12, 13] [0, 1, 2, 3, 4, 5, 6, 7, 8, 9] (fun ιi => cond (Nat.beq ιi 8) [Hp.rec_ b1 [.int .i64 2, .int .i64 ((i.val : Nat) : Int), .int .i64 ((j.val : Nat) : Int)]] (cond (Nat.beq ιi 6) [Hp.rec_ b1 [.int .i64 2, .int .i64 ((i.val : Nat) : Int), .int .i64 ((j.val : Nat) : Int)]] (cond (Nat.beq ιi 3) [Hp.rec_ b1 [.int .i64 2, .int .i64 ((i.val : Nat) : Int), .int .i64 ((j.val : Nat) : Int)]] (cond (Nat.beq ιi 1) [Hp.rec_ b1 [.int .i64 2, .int .i64 ((i.val : Nat) : Int), .int .i64 ((j.val : Nat) : Int)]] ([]))))) (fun d => [Hp.rec_ b1 [.int .i64 2, .int .i64 ((i.val : Nat) : Int), .int .i64 ((j.val : Nat) : Int)], Hp.rec_ S [pv, .map (some mc), .map (some ma), .bool dn_], Hp.own FP 4 pv ps, Hp.map Try.prog 45 pairL vN mc ca, Hp.map Try.prog 45 pairL vN ma an, R, pp2x6 d, pp2x7 d, pp2x8 d, pp2x9 d]) Try.mixed (by kernel_rfl) (by kernel_rfl) (by rw [pp2x6e]; rw [pp2x7e]; rw [pp2x8e]; rw [pp2x9e]; rfl) ?_ ?_
  · intro ιi d w hc hs H
    by_cases hn1 : ιi = 1
    · subst hn1
      exact H.only (k := 0) rfl rfl
    · by_cases hn3 : ιi = 3
      · subst hn3
        exact H.only (k := 0) rfl rfl
      · by_cases hn6 : ιi = 6
        · subst hn6
          exact H.only (k := 0) rfl rfl
        · by_cases hn8 : ιi = 8
          · subst hn8
            exact H.only (k := 0) rfl rfl
          · refine Sat.listed (l := []) H.noneL ?_
            simp only [beq_no hn1, beq_no hn3, beq_no hn6, beq_no hn8, cond_false]
  refine Gp.val rfl rfl rfl rfl (Val.cast (val_fieldAddr rfl Try.underlying32 rfl Try.ty3 rfl rfl) (v' := ptr b1 2) rfl) ?_
  refine Gp.val rfl rfl rfl rfl (val_load rfl Try.ty3 rfl rfl (cell_rec (k := 0) rfl rfl)) ?_
  refine Gp.val rfl rfl rfl rfl (Val.cast (val_fieldAddr rfl Try.underlying32 rfl Try.ty3 rfl rfl) (v' := ptr b1 1) rfl) ?_
  refine Gp.val rfl rfl rfl rfl (val_load rfl Try.ty3 rfl rfl (cell_rec (k := 0) rfl rfl)) ?_
  refine Gp.val rfl rfl rfl rfl (val_build rfl (qs := [(0, .int .i64 ((j.val : Nat) : Int)), (1, .int .i64 ((i.val : Nat) : Int))]) rfl rfl (fun w => by go_simp) (v := .agg #[.int .i64 ((j.val : Nat) : Int), .int .i64 ((i.val : Nat) : Int)])) ?_
  refine Gp.val rfl rfl rfl rfl (Val.cast (val_fieldAddr rfl Try.underlying32 rfl Try.ty3 rfl rfl) (v' := ptr b1 1) rfl) ?_
  refine Gp.val rfl rfl rfl rfl (val_load rfl Try.ty3 rfl rfl (cell_rec (k := 0) rfl rfl)) ?_
  refine Gp.val rfl rfl rfl rfl (Val.cast (val_fieldAddr rfl Try.underlying32 rfl Try.ty3 rfl rfl) (v' := ptr b1 2) rfl) ?_
  refine Gp.val rfl rfl rfl rfl (val_load rfl Try.ty3 rfl rfl (cell_rec (k := 0) rfl rfl)) ?_
  refine Gp.val rfl rfl rfl rfl (val_build rfl (qs := [(0, .int .i64 ((i.val : Nat) : Int)), (1, .int .i64 ((j.val : Nat) : Int))]) rfl rfl (fun w => by go_simp) (v := .agg #[.int .i64 ((i.val : Nat) : Int), .int .i64 ((j.val : Nat) : Int)])) ?_
  refine Gp.done (uniq_of (by kernel_rfl)) (by rfl) (by kernel_rfl) ⟨⟨_, rfl, ?_⟩, ⟨_, rfl, ?_⟩, ⟨_, rfl, ?_⟩, ⟨_, rfl, ?_⟩, trivial⟩ ?_
  · intro d hc hdi hpre a w hf H
    change Sat _ _ (sep [Hp.rec_ b1 [.int .i64 2, .int .i64 ((i.val : Nat) : Int), .int .i64 ((j.val : Nat) : Int)], Hp.rec_ S [pv, .map (some mc), .map (some ma), .bool dn_], Hp.own FP 4 pv ps, Hp.map Try.prog 45 pairL vN mc ca, Hp.map Try.prog 45 pairL vN ma an, R, pp2x6 d, pp2x7 d, pp2x8 d, pp2x9 d]) at H
    have q10 := hdi
    have q12 : dn d 12 = false := hc.not 12 10 rfl (by kernel_rfl) q10
    have q13 : dn d 13 = false := hc.not 13 10 rfl (by kernel_rfl) q10
    have n6 : pp2x6 d = 1 := by rw [pp2x6e]; simp only [q10, q12, cond_true, cond_false]
    have n8 : pp2x8 d = 1 := by rw [pp2x8e]; simp only [q10, cond_true, cond_false]
    rw [n6, n8] at H
    refine EffAt.mono (Eff.at_ hf.slots H (eff_alloc rfl Try.ty45 (vs := [.int .i64 0, .int .i64 0]) rfl)) ?_
    rintro _ w2 ⟨_, ⟨b3, rfl, rfl⟩, H2⟩
    have H2 := Sat.fillAt H2 (k := 6) rfl
    have H2 := (Sat.pureI (p := ptr b3 0 = ptr b3 0) rfl H2).fillAt (k := 8) rfl
    obtain ⟨d2, hd2⟩ : ∃ d2, d2 = upd d 10 (ptr b3 0) := ⟨_, rfl⟩
    have m10 : dn d2 10 = true := by rw [hd2]; rfl
    have m12 : dn d2 12 = false := by rw [hd2]; exact q12
    have m13 : dn d2 13 = false := by rw [hd2]; exact q13
    rw [← hd2]
    change Sat _ _ (sep [Hp.rec_ b1 [.int .i64 2, .int .i64 ((i.val : Nat) : Int), .int .i64 ((j.val : Nat) : Int)], Hp.rec_ S [pv, .map (some mc), .map (some ma), .bool dn_], Hp.own FP 4 pv ps, Hp.map Try.prog 45 pairL vN mc ca, Hp.map Try.prog 45 pairL vN ma an, R, pp2x6 d2, pp2x7 d2, pp2x8 d2, pp2x9 d2])
    have u6 := congrFun pp2x6e d2
    simp only [m10, m12, cond_true, cond_false] at u6
    have u7 : pp2x7 d2 = pp2x7 d := by rw [hd2, pp2x7e]; rfl
    have u8 := congrFun pp2x8e d2
    simp only [m10, cond_true, cond_false] at u8
    have u9 : pp2x9 d2 = pp2x9 d := by rw [hd2, pp2x9e]; rfl
    rw [u6, u7, u8, u9]
    subst hd2
    exact H2
  · intro d hc hdi hpre a w hf H
    change Sat _ _ (sep [Hp.rec_ b1 [.int .i64 2, .int .i64 ((i.val : Nat) : Int), .int .i64 ((j.val : Nat) : Int)], Hp.rec_ S [pv, .map (some mc), .map (some ma), .bool dn_], Hp.own FP 4 pv ps, Hp.map Try.prog 45 pairL vN mc ca, Hp.map Try.prog 45 pairL vN ma an, R, pp2x6 d, pp2x7 d, pp2x8 d, pp2x9 d]) at H
    have q11 := hdi
    have q12 : dn d 12 = false := hc.not 12 11 rfl (by kernel_rfl) q11
    have q13 : dn d 13 = false := hc.not 13 11 rfl (by kernel_rfl) q11
    have n7 : pp2x7 d = 1 := by rw [pp2x7e]; simp only [q11, q13, cond_true, cond_false]
    have n9 : pp2x9 d = 1 := by rw [pp2x9e]; simp only [q11, cond_true, cond_false]
    rw [n7, n9] at H
    refine EffAt.mono (Eff.at_ hf.slots H (eff_alloc rfl Try.ty45 (vs := [.int .i64 0, .int .i64 0]) rfl)) ?_
    rintro _ w2 ⟨_, ⟨b4, rfl, rfl⟩, H2⟩
    have H2 := Sat.fillAt H2 (k := 7) rfl
    have H2 := (Sat.pureI (p := ptr b4 0 = ptr b4 0) rfl H2).fillAt (k := 9) rfl
    obtain ⟨d2, hd2⟩ : ∃ d2, d2 = upd d 11 (ptr b4 0) := ⟨_, rfl⟩
    have m11 : dn d2 11 = true := by rw [hd2]; rfl
    have m12 : dn d2 12 = false := by rw [hd2]; exact q12
    have m13 : dn d2 13 = false := by rw [hd2]; exact q13
    rw [← hd2]
    change Sat _ _ (sep [Hp.rec_ b1 [.int .i64 2, .int .i64 ((i.val : Nat) : Int), .int .i64 ((j.val : Nat) : Int)], Hp.rec_ S [pv, .map (some mc), .map (some ma), .bool dn_], Hp.own FP 4 pv ps, Hp.map Try.prog 45 pairL vN mc ca, Hp.map Try.prog 45 pairL vN ma an, R, pp2x6 d2, pp2x7 d2, pp2x8 d2, pp2x9 d2])
    have u6 : pp2x6 d2 = pp2x6 d := by rw [hd2, pp2x6e]; rfl
    have u7 := congrFun pp2x7e d2
    simp only [m11, m13, cond_true, cond_false] at u7
    have u8 : pp2x8 d2 = pp2x8 d := by rw [hd2, pp2x8e]; rfl
    have u9 := congrFun pp2x9e d2
    simp only [m11, cond_true, cond_false] at u9
    rw [u6, u7, u8, u9]
    subst hd2
    exact H2
  · intro d hc hdi hpre a w hf H
    change Sat _ _ (sep [Hp.rec_ b1 [.int .i64 2, .int .i64 ((i.val : Nat) : Int), .int .i64 ((j.val : Nat) : Int)], Hp.rec_ S [pv, .map (some mc), .map (some ma), .bool dn_], Hp.own FP 4 pv ps, Hp.map Try.prog 45 pairL vN mc ca, Hp.map Try.prog 45 pairL vN ma an, R, pp2x6 d, pp2x7 d, pp2x8 d, pp2x9 d]) at H
    have q10 : dn d 10 = true := hpre 10 (by kernel_rfl)
    have q10 : dn d 10 = true := hpre 10 (by kernel_rfl)
    have q11 : dn d 11 = true := hpre 11 (by kernel_rfl)
    have q12 := hdi
    have q13 : dn d 13 = false := hc.not 13 12 rfl (by kernel_rfl) q12
    have e10 : dv d 10 = ptr (pB (dv d 10)) 0 := H.factAt (k := 8) rfl (by rw [pp2x8e]; simp only [q10, cond_true])
    have e11 : dv d 11 = ptr (pB (dv d 11)) 0 := H.factAt (k := 9) rfl (by rw [pp2x9e]; simp only [q11, cond_true])
    have n6 : pp2x6 d = Hp.rec_ (pB (dv d 10)) [.int .i64 0, .int .i64 0] := by rw [pp2x6e]; simp only [q10, q12, cond_true, cond_false]
    have n7 : pp2x7 d = Hp.rec_ (pB (dv d 11)) [.int .i64 0, .int .i64 0] := by rw [pp2x7e]; simp only [q11, q13, cond_true, cond_false]
    rw [n6, n7] at H
    have s10 := hf.add hf.slots 10 rfl (by kernel_rfl) rfl q10 (v := ptr (pB (dv d 10)) 0) e10
    refine EffAt.mono (Eff.at_ s10 H (eff_store rfl Try.ty45 rfl rfl (us := [.int .i64 ((j.val : Nat) : Int), .int .i64 ((i.val : Nat) : Int)]) rfl rfl rfl (k := 6) rfl rfl (vs' := [.int .i64 ((j.val : Nat) : Int), .int .i64 ((i.val : Nat) : Int)]) rfl (l' := [Hp.rec_ b1 [.int .i64 2, .int .i64 ((i.val : Nat) : Int), .int .i64 ((j.val : Nat) : Int)], Hp.rec_ S [pv, .map (some mc), .map (some ma), .bool dn_], Hp.own FP 4 pv ps, Hp.map Try.prog 45 pairL vN mc ca, Hp.map Try.prog 45 pairL vN ma an, R, Hp.rec_ (pB (dv d 10)) [.int .i64 ((j.val : Nat) : Int), .int .i64 ((i.val : Nat) : Int)], Hp.rec_ (pB (dv d 11)) [.int .i64 0, .int .i64 0], pp2x8 d, pp2x9 d]) rfl)) ?_
    rintro v w2 ⟨_, rfl, H2⟩
    obtain ⟨d2, hd2⟩ : ∃ d2, d2 = upd d 12 v := ⟨_, rfl⟩
    have m12 : dn d2 12 = true := by rw [hd2]; rfl
    have m10 : dn d2 10 = true := by rw [hd2]; exact q10
    have m11 : dn d2 11 = true := by rw [hd2]; exact q11
    have m13 : dn d2 13 = false := by rw [hd2]; exact q13
    rw [← hd2]
    change Sat _ _ (sep [Hp.rec_ b1 [.int .i64 2, .int .i64 ((i.val : Nat) : Int), .int .i64 ((j.val : Nat) : Int)], Hp.rec_ S [pv, .map (some mc), .map (some ma), .bool dn_], Hp.own FP 4 pv ps, Hp.map Try.prog 45 pairL vN mc ca, Hp.map Try.prog 45 pairL vN ma an, R, pp2x6 d2, pp2x7 d2, pp2x8 d2, pp2x9 d2])
    have u6 := congrFun pp2x6e d2
    simp only [m10, m12, cond_true, cond_false] at u6
    have u7 := congrFun pp2x7e d2
    simp only [m11, m13, cond_true, cond_false] at u7
    have u8 : pp2x8 d2 = pp2x8 d := by rw [hd2, pp2x8e]; rfl
    have u9 : pp2x9 d2 = pp2x9 d := by rw [hd2, pp2x9e]; rfl
    rw [u6, u7, u8, u9]
    subst hd2
    exact H2
  · intro d hc hdi hpre a w hf H
    change Sat _ _ (sep [Hp.rec_ b1 [.int .i64 2, .int .i64 ((i.val : Nat) : Int), .int .i64 ((j.val : Nat) : Int)], Hp.rec_ S [pv, .map (some mc), .map (some ma), .bool dn_], Hp.own FP 4 pv ps, Hp.map Try.prog 45 pairL vN mc ca, Hp.map Try.prog 45 pairL vN ma an, R, pp2x6 d, pp2x7 d, pp2x8 d, pp2x9 d]) at H
    have q11 : dn d 11 = true := hpre 11 (by kernel_rfl)
    have q12 : dn d 12 = true := hpre 12 (by kernel_rfl)
    have q10 : dn d 10 = true := hpre 10 (by kernel_rfl)
    have q11 : dn d 11 = true := hpre 11 (by kernel_rfl)
    have q12 : dn d 12 = true := hpre 12 (by kernel_rfl)
    have q13 := hdi
    have e11 : dv d 11 = ptr (pB (dv d 11)) 0 := H.factAt (k := 9) rfl (by rw [pp2x9e]; simp only [q11, cond_true])
    have e10 : dv d 10 = ptr (pB (dv d 10)) 0 := H.factAt (k := 8) rfl (by rw [pp2x8e]; simp only [q10, cond_true])
    have n6 : pp2x6 d = Hp.rec_ (pB (dv d 10)) [.int .i64 ((j.val : Nat) : Int), .int .i64 ((i.val : Nat) : Int)] := by rw [pp2x6e]; simp only [q10, q12, cond_true, cond_false]
    have n7 : pp2x7 d = Hp.rec_ (pB (dv d 11)) [.int .i64 0, .int .i64 0] := by rw [pp2x7e]; simp only [q11, q13, cond_true, cond_false]
    rw [n6, n7] at H
    have s11 := hf.add hf.slots 11 rfl (by kernel_rfl) rfl q11 (v := ptr (pB (dv d 11)) 0) e11
    refine EffAt.mono (Eff.at_ s11 H (eff_store rfl Try.ty45 rfl rfl (us := [.int .i64 ((i.val : Nat) : Int), .int .i64 ((j.val : Nat) : Int)]) rfl rfl rfl (k := 7) rfl rfl (vs' := [.int .i64 ((i.val : Nat) : Int), .int .i64 ((j.val : Nat) : Int)]) rfl (l' := [Hp.rec_ b1 [.int .i64 2, .int .i64 ((i.val : Nat) : Int), .int .i64 ((j.val : Nat) : Int)], Hp.rec_ S [pv, .map (some mc), .map (some ma), .bool dn_], Hp.own FP 4 pv ps, Hp.map Try.prog 45 pairL vN mc ca, Hp.map Try.prog 45 pairL vN ma an, R, Hp.rec_ (pB (dv d 10)) [.int .i64 ((j.val : Nat) : Int), .int .i64 ((i.val : Nat) : Int)], Hp.rec_ (pB (dv d 11)) [.int .i64 ((i.val : Nat) : Int), .int .i64 ((j.val : Nat) : Int)], pp2x8 d, pp2x9 d]) rfl)) ?_
    rintro v w2 ⟨_, rfl, H2⟩
    obtain ⟨d2, hd2⟩ : ∃ d2, d2 = upd d 13 v := ⟨_, rfl⟩
    have m13 : dn d2 13 = true := by rw [hd2]; rfl
    have m11 : dn d2 11 = true := by rw [hd2]; exact q11
    have m12 : dn d2 12 = true := by rw [hd2]; exact q12
    have m10 : dn d2 10 = true := by rw [hd2]; exact q10
    rw [← hd2]
    change Sat _ _ (sep [Hp.rec_ b1 [.int .i64 2, .int .i64 ((i.val : Nat) : Int), .int .i64 ((j.val : Nat) : Int)], Hp.rec_ S [pv, .map (some mc), .map (some ma), .bool dn_], Hp.own FP 4 pv ps, Hp.map Try.prog 45 pairL vN mc ca, Hp.map Try.prog 45 pairL vN ma an, R, pp2x6 d2, pp2x7 d2, pp2x8 d2, pp2x9 d2])
    have u6 := congrFun pp2x6e d2
    simp only [m10, m12, cond_true, cond_false] at u6
    have u7 := congrFun pp2x7e d2
    simp only [m11, m13, cond_true, cond_false] at u7
    have u8 : pp2x8 d2 = pp2x8 d := by rw [hd2, pp2x8e]; rfl
    have u9 : pp2x9 d2 = pp2x9 d := by rw [hd2, pp2x9e]; rfl
    rw [u6, u7, u8, u9]
    subst hd2
    exact H2
  · intro d hc hall a hf w H
    change Sat _ _ (sep [Hp.rec_ b1 [.int .i64 2, .int .i64 ((i.val : Nat) : Int), .int .i64 ((j.val : Nat) : Int)], Hp.rec_ S [pv, .map (some mc), .map (some ma), .bool dn_], Hp.own FP 4 pv ps, Hp.map Try.prog 45 pairL vN mc ca, Hp.map Try.prog 45 pairL vN ma an, R, pp2x6 d, pp2x7 d, pp2x8 d, pp2x9 d]) at H
    have q10 : dn d 10 = true := hall 10 rfl
    have q11 : dn d 11 = true := hall 11 rfl
    have q12 : dn d 12 = true := hall 12 rfl
    have q13 : dn d 13 = true := hall 13 rfl
    have e10 : dv d 10 = ptr (pB (dv d 10)) 0 := H.factAt (k := 8) rfl (by rw [pp2x8e]; simp only [q10, cond_true])
    have e11 : dv d 11 = ptr (pB (dv d 11)) 0 := H.factAt (k := 9) rfl (by rw [pp2x9e]; simp only [q11, cond_true])
    have n6 : pp2x6 d = Hp.rec_ (pB (dv d 10)) [.int .i64 ((j.val : Nat) : Int), .int .i64 ((i.val : Nat) : Int)] := by rw [pp2x6e]; simp only [q10, q12, cond_true, cond_false]
    have n7 : pp2x7 d = Hp.rec_ (pB (dv d 11)) [.int .i64 ((i.val : Nat) : Int), .int .i64 ((j.val : Nat) : Int)] := by rw [pp2x7e]; simp only [q11, q13, cond_true, cond_false]
    have n8 : pp2x8 d = Hp.pure (dv d 10 = ptr (pB (dv d 10)) 0) := by rw [pp2x8e]; simp only [q10, cond_true]
    have n9 : pp2x9 d = Hp.pure (dv d 11 = ptr (pB (dv d 11)) 0) := by rw [pp2x9e]; simp only [q11, cond_true]
    rw [n6, n7, n8, n9] at H
    clear n6 n7 n8 n9
    obtain ⟨z5, hz5⟩ : ∃ b, b = pB (dv d 10) := ⟨_, rfl⟩
    rw [← hz5] at e10 H
    have s10 := hf.add hf.slots 10 rfl rfl rfl q10 (v := ptr z5 0) e10
    obtain ⟨z6, hz6⟩ : ∃ b, b = pB (dv d 11) := ⟨_, rfl⟩
    rw [← hz6] at e11 H
    have s11 := hf.add s10 11 rfl rfl rfl q11 (v := ptr z6 0) e11
    refine Gx.use s11 H ?_
    refine Gx.drop 9 rfl ?_
    refine Gx.drop 8 rfl ?_
    refine Gx.norm (l' := [Hp.rec_ b1 [.int .i64 2, .int .i64 ((i.val : Nat) : Int), .int .i64 ((j.val : Nat) : Int)], Hp.rec_ S [pv, .map (some mc), .map (some ma), .bool dn_], Hp.own FP 4 pv ps, Hp.map Try.prog 45 pairL vN mc ca, Hp.map Try.prog 45 pairL vN ma an, R, Hp.rec_ z5 [.int .i64 ((j.val : Nat) : Int), .int .i64 ((i.val : Nat) : Int)], Hp.rec_ z6 [.int .i64 ((i.val : Nat) : Int), .int .i64 ((j.val : Nat) : Int)]]) rfl ?_
    refine Gx.thenN ?_
    refine Gx.seq ?_
    refine Gx.seq ?_
    refine Gx.region ?_
    refine Gx.val rfl rfl rfl (Val.cast (val_fieldAddr rfl Try.underlying32 rfl Try.ty3 rfl rfl) (v' := ptr b1 0) rfl) ?_
    refine Gx.val rfl rfl rfl (val_load rfl Try.ty3 rfl rfl (cell_rec (k := 0) rfl rfl)) ?_
    refine Gx.done ?_
    refine Gx.thenN ?_
    refine Gx.block ?_
    refine Gx.seq ?_
    refine Gx.seq ?_
    refine Gx.region ?_
    refine Gx.val rfl rfl rfl (Val.cast (val_eql rfl rfl rfl) (v' := .bool false) rfl) ?_
    refine Gx.val rfl rfl rfl (val_assign rfl rfl) ?_
    refine Gx.done ?_
    refine Gx.thenN ?_
    refine Gx.f rfl ?_
    refine Gx.region ?_
    refine Gx.val rfl rfl rfl (Val.cast (val_eql rfl rfl rfl) (v' := .bool false) rfl) ?_
    refine Gx.val rfl rfl rfl (val_assign rfl rfl) ?_
    refine Gx.done ?_
    refine Gx.thenN ?_
    refine Gx.f rfl ?_
    refine Gx.seq ?_
    refine Gx.region ?_
    refine Gx.val rfl rfl rfl (Val.cast (val_eql rfl rfl rfl) (v' := .bool true) rfl) ?_
    refine Gx.val rfl rfl rfl (val_assign rfl rfl) ?_
    refine Gx.done ?_
    refine Gx.thenN ?_
    refine Gx.t rfl ?_
    refine Gx.seq ?_
    refine Gx.seq ?_
    refine Gx.regionO (fun j => j == 5) 6 [0, 1, 2, 3, 4, 5] (fun us => match us with | [] => [Hp.rec_ b1 [.int .i64 2, .int .i64 ((i.val : Nat) : Int), .int .i64 ((j.val : Nat) : Int)], Hp.rec_ S [pv, .map (some mc), .map (some ma), .bool dn_], Hp.own FP 4 pv ps, Hp.map Try.prog 45 pairL vN mc ca, Hp.map Try.prog 45 pairL vN ma an, R, Hp.rec_ z5 [.int .i64 ((j.val : Nat) : Int), .int .i64 ((i.val : Nat) : Int)], Hp.rec_ z6 [.int .i64 ((i.val : Nat) : Int), .int .i64 ((j.val : Nat) : Int)]] | u1 :: _ => [Hp.map Try.prog 45 pairL vN mc (dec ca (j, i)), Hp.rec_ b1 [.int .i64 2, .int .i64 ((i.val : Nat) : Int), .int .i64 ((j.val : Nat) : Int)], Hp.rec_ S [pv, .map (some mc), .map (some ma), .bool dn_], Hp.own FP 4 pv ps, Hp.map Try.prog 45 pairL vN ma an, R, Hp.rec_ z5 [.int .i64 ((j.val : Nat) : Int), .int .i64 ((i.val : Nat) : Int)], Hp.rec_ z6 [.int .i64 ((i.val : Nat) : Int), .int .i64 ((j.val : Nat) : Int)]]) Try.mixed (by kernel_rfl) rfl ?_
    refine Gw.val rfl rfl rfl rfl rfl (fun us => val_move rfl rfl) ?_
    refine Gw.val rfl rfl rfl rfl rfl (fun us => val_nilCheck rfl rfl) ?_
    refine Gw.val rfl rfl rfl rfl rfl (fun us => Val.cast (val_fieldAddr rfl Try.underlying39 rfl Try.ty37 rfl rfl) (v' := ptr S 1) rfl) ?_
    refine Gw.val0 rfl rfl rfl (by kernel_rfl) rfl rfl (val_load rfl Try.ty37 rfl rfl (cell_rec (k := 1) rfl rfl)) ?_
    refine Gw.val0 rfl rfl rfl (by kernel_rfl) rfl rfl (Val.cast (val_loadA rfl Try.ty45 rfl rfl rfl (cells_rec (k := 6) rfl)) (v' := .agg #[.int .i64 ((j.val : Nat) : Int), .int .i64 ((i.val : Nat) : Int)]) rfl) ?_
    refine Gw.chg rfl rfl rfl rfl rfl (fun v => v = .bool true) (eff_call (vs := [.map (some mc), .agg #[.int .i64 ((j.val : Nat) : Int), .int .i64 ((i.val : Nat) : Int)]]) rfl Try.fn13 rfl (fun w H => arrive_yes hc_ rm.c (rm.cc _) (H.at_ (k := 3) rfl))) ?_
    rintro _ rfl
    refine Gw.done ?_
    refine Gx.norm (l' := [Hp.map Try.prog 45 pairL vN mc (dec ca (j, i)), Hp.rec_ b1 [.int .i64 2, .int .i64 ((i.val : Nat) : Int), .int .i64 ((j.val : Nat) : Int)], Hp.rec_ S [pv, .map (some mc), .map (some ma), .bool dn_], Hp.own FP 4 pv ps, Hp.map Try.prog 45 pairL vN ma an, R, Hp.rec_ z5 [.int .i64 ((j.val : Nat) : Int), .int .i64 ((i.val : Nat) : Int)], Hp.rec_ z6 [.int .i64 ((i.val : Nat) : Int), .int .i64 ((j.val : Nat) : Int)]]) rfl ?_
    refine Gx.val rfl rfl rfl (Val.cast (val_not rfl rfl) (v' := .bool false) rfl) ?_
    refine Gx.done ?_
    refine Gx.thenN ?_
    refine Gx.f rfl ?_
    refine Gx.skip ?_
    refine Gx.thenN ?_
    refine Gx.seq ?_
    refine Gx.region ?_
    refine Gx.val rfl rfl rfl (val_move rfl rfl) ?_
    refine Gx.val rfl rfl rfl (val_nilCheck rfl rfl) ?_
    refine Gx.val rfl rfl rfl (Val.cast (val_fieldAddr rfl Try.underlying41 rfl Try.ty4 rfl rfl) (v' := ptr (sB pv) (sO pv + i.val * 4)) rfl) ?_
    refine Gx.eff0 rfl rfl (eff_storeEl (i := 0) (e' := (⟨true, x.bound, x.to, x.owes⟩ : Pr)) rfl Try.ty4 rfl rfl rfl rfl (k := 3) rfl FP_len hx (by decide) (rfl) (l' := [Hp.map Try.prog 45 pairL vN mc (dec ca (j, i)), Hp.rec_ b1 [.int .i64 2, .int .i64 ((i.val : Nat) : Int), .int .i64 ((j.val : Nat) : Int)], Hp.rec_ S [pv, .map (some mc), .map (some ma), .bool dn_], Hp.own FP 4 pv (ps.set i.val (⟨true, x.bound, x.to, x.owes⟩ : Pr)), Hp.map Try.prog 45 pairL vN ma an, R, Hp.rec_ z5 [.int .i64 ((j.val : Nat) : Int), .int .i64 ((i.val : Nat) : Int)], Hp.rec_ z6 [.int .i64 ((i.val : Nat) : Int), .int .i64 ((j.val : Nat) : Int)]]) rfl) ?_
    rintro _ _ rfl
    refine Gx.done ?_
    refine Gx.thenN ?_
    refine Gx.seq ?_
    refine Gx.region ?_
    refine Gx.val rfl rfl rfl (val_move rfl rfl) ?_
    refine Gx.val rfl rfl rfl (val_nilCheck rfl rfl) ?_
    refine Gx.val rfl rfl rfl (Val.cast (val_fieldAddr rfl Try.underlying41 rfl Try.ty4 rfl rfl) (v' := ptr (sB pv) (sO pv + i.val * 4 + 1)) rfl) ?_
    refine Gx.val rfl rfl rfl (val_load rfl Try.ty4 rfl rfl (cell_own (i := 1) (k := 3) rfl (List.getElem?_set_self (List.getElem?_eq_some_iff.1 hx).1) rfl)) ?_
    refine Gx.done ?_
    refine Gx.thenN ?_
    refine Gx.boolT rfl (hbound) ?_
    refine Gx.regionO (fun j => j == 7) 9 [0, 1, 2, 3, 4, 5, 6, 7, 8] (fun us => match us with | [] => [Hp.map Try.prog 45 pairL vN mc (dec ca (j, i)), Hp.rec_ b1 [.int .i64 2, .int .i64 ((i.val : Nat) : Int), .int .i64 ((j.val : Nat) : Int)], Hp.rec_ S [pv, .map (some mc), .map (some ma), .bool dn_], Hp.own FP 4 pv (ps.set i.val (⟨true, x.bound, x.to, x.owes⟩ : Pr)), Hp.map Try.prog 45 pairL vN ma an, R, Hp.rec_ z5 [.int .i64 ((j.val : Nat) : Int), .int .i64 ((i.val : Nat) : Int)], Hp.rec_ z6 [.int .i64 ((i.val : Nat) : Int), .int .i64 ((j.val : Nat) : Int)]] | u1 :: _ => [Hp.map Try.prog 45 pairL vN mc (dec ca (j, i)), Hp.rec_ b1 [.int .i64 2, .int .i64 ((i.val : Nat) : Int), .int .i64 ((j.val : Nat) : Int)], Hp.rec_ S [pv, .map (some mc), .map (some ma), .bool dn_], Hp.own FP 4 pv (ps.set i.val (⟨true, x.bound, x.to, x.owes⟩ : Pr)), Hp.mapE Try.prog 45 pairL vN pairV ma (putM an (i, j) (cnt an (i, j))) (i, j) (sN u1), R, Hp.rec_ z5 [.int .i64 ((j.val : Nat) : Int), .int .i64 ((i.val : Nat) : Int)], Hp.rec_ z6 [.int .i64 ((i.val : Nat) : Int), .int .i64 ((j.val : Nat) : Int)]]) Try.mixed (by kernel_rfl) rfl ?_
    refine Gw.val rfl rfl rfl rfl rfl (fun us => val_move rfl rfl) ?_
    refine Gw.val rfl rfl rfl rfl rfl (fun us => val_nilCheck rfl rfl) ?_
    refine Gw.val rfl rfl rfl rfl rfl (fun us => Val.cast (val_fieldAddr rfl Try.underlying39 rfl Try.ty37 rfl rfl) (v' := ptr S 2) rfl) ?_
    refine Gw.val0 rfl rfl rfl (by kernel_rfl) rfl rfl (val_load rfl Try.ty37 rfl rfl (cell_rec (k := 2) rfl rfl)) ?_
    refine Gw.val0 rfl rfl rfl (by kernel_rfl) rfl rfl (Val.cast (val_loadA rfl Try.ty45 rfl rfl rfl (cells_rec (k := 7) rfl)) (v' := .agg #[.int .i64 ((i.val : Nat) : Int), .int .i64 ((j.val : Nat) : Int)]) rfl) ?_
    refine Gw.val rfl rfl rfl rfl rfl (fun us => match us with | [] => val_lookup1 rfl Try.underlying37 Try.kL Try.ty3 rfl rfl (i := (i, j)) (trivial) (k := 4) rfl (r := .int .i64 ((cnt an (i, j) : Nat) : Int)) (getM_vN an (i, j)) | u1 :: _ => val_lookup1E rfl Try.underlying37 Try.kL Try.ty3 rfl rfl (i := (i, j)) (trivial) (k := 4) rfl (r := .int .i64 ((cnt an (i, j) : Nat) : Int)) (getM_vN2 an (i, j))) ?_
    refine Gw.val rfl rfl rfl rfl rfl (fun us => val_add rfl rfl rfl (r := ((cnt an (i, j) + 1 : Nat) : Int)) (w64 (by omega) (by have := rm.aa (i, j); omega))) ?_
    refine Gw.chg rfl rfl rfl rfl rfl (fun v => ∃ s8 : Nat, v = .tuple #[vN (cnt an (i, j)), .int .i64 ((s8 : Nat) : Int)]) (Eff.mono (eff_mapEntry rfl Try.underlying37 Try.ty3 (z0 := 0) rfl Try.kL pairK rfl rfl (i := (i, j)) (trivial) (k := 4) rfl (by unfold maxLen; omega) (r := cnt an (i, j)) (rfl)) (by rintro _ _ ⟨s8, rfl, rfl⟩; exact ⟨⟨s8, rfl⟩, rfl⟩)) ?_
    rintro _ ⟨s8, rfl⟩
    refine Gw.val rfl rfl rfl rfl rfl (fun us => val_extract rfl rfl rfl) ?_
    refine Gw.done ?_
    refine Gx.norm (l' := [Hp.map Try.prog 45 pairL vN mc (dec ca (j, i)), Hp.rec_ b1 [.int .i64 2, .int .i64 ((i.val : Nat) : Int), .int .i64 ((j.val : Nat) : Int)], Hp.rec_ S [pv, .map (some mc), .map (some ma), .bool dn_], Hp.own FP 4 pv (ps.set i.val (⟨true, x.bound, x.to, x.owes⟩ : Pr)), Hp.mapE Try.prog 45 pairL vN pairV ma (putM an (i, j) (cnt an (i, j))) (i, j) s8, R, Hp.rec_ z5 [.int .i64 ((j.val : Nat) : Int), .int .i64 ((i.val : Nat) : Int)], Hp.rec_ z6 [.int .i64 ((i.val : Nat) : Int), .int .i64 ((j.val : Nat) : Int)]]) rfl ?_
    refine Gx.eff0 rfl rfl (eff_entryStore rfl Try.underlying37 Try.kL pairK rfl rfl rfl (i := (i, j)) (r := (cnt an (i, j) + 1)) (trivial) (k := 4) rfl (by rw [putM_length]; unfold maxLen; split <;> omega) (l' := [Hp.map Try.prog 45 pairL vN mc (dec ca (j, i)), Hp.rec_ b1 [.int .i64 2, .int .i64 ((i.val : Nat) : Int), .int .i64 ((j.val : Nat) : Int)], Hp.rec_ S [pv, .map (some mc), .map (some ma), .bool dn_], Hp.own FP 4 pv (ps.set i.val (⟨true, x.bound, x.to, x.owes⟩ : Pr)), Hp.map Try.prog 45 pairL vN ma (inc an (i, j)), R, Hp.rec_ z5 [.int .i64 ((j.val : Nat) : Int), .int .i64 ((i.val : Nat) : Int)], Hp.rec_ z6 [.int .i64 ((i.val : Nat) : Int), .int .i64 ((j.val : Nat) : Int)]]) (by rw [show putM (putM an (i, j) (cnt an (i, j))) (i, j) (cnt an (i, j) + 1) = (inc an (i, j)) from putM_twice ..]; rfl)) ?_
    rintro _ _ rfl
    refine Gx.done ?_
    refine Gx.blkN ?_
    refine Gx.thenN ?_
    refine Gx.seq ?_
    refine Gx.region ?_
    refine Gx.val rfl rfl rfl (val_assign rfl rfl) ?_
    refine Gx.done ?_
    refine Gx.thenN ?_
    refine Gx.ret ?_
    refine Gx.drop 7 rfl ?_
    refine Gx.drop 6 rfl ?_
    refine Gx.drop 1 rfl ?_
    refine Gx.front 4 rfl ?_
    refine Gx.front 4 rfl ?_
    refine Gx.front 2 rfl ?_
    refine Gx.front 4 rfl ?_
    refine Gx.front 4 rfl ?_
    refine Gx.ret1 Try.results11 rfl ?_
    exact ⟨rfl, sep4 _ _ _ _ _⟩

theorem take_free {W w : World} {S : Nat} {pv : Value} {mc ma : Nat} {ps : List Pr} {ca an : Cn} {dn_ : Bool} {R : Hp} {i j : Sm} {x : Pr} (hx : ps[i.val]? = some x) (rm : Rooms ca an x) (hc_ : cnt ca (j, i) ≠ 0) (hbound : x.bound = false) (H : Sat W w (qAt S pv mc ma ps ca an dn_ R)) :
    Calls Try.prog 11 #[ptr S 0, .agg #[.int .i64 2, .int .i64 ((i.val : Nat) : Int), .int .i64 ((j.val : Nat) : Int)]] w (Ret W fun v l => v = .int .i64 0 ∧ sep l = qAt S pv mc ma (((ps.set i.val (⟨true, x.bound, x.to, x.owes⟩ : Pr)).set i.val (⟨true, true, x.to, x.owes⟩ : Pr)).set i.val (⟨true, true, (some j), x.owes⟩ : Pr)) (dec ca (j, i)) an dn_ R) := by
  refine Gx.enter (l := [Hp.rec_ S [pv, .map (some mc), .map (some ma), .bool dn_], Hp.own FP 4 pv ps, Hp.map Try.prog 45 pairL vN mc ca, Hp.map Try.prog 45 pairL vN ma an, R]) Try.func11 rfl Try.ntmps11 rfl (H.frame4) ?_
  refine Gx.know (m' := [(0, ptr S 0), (1, .agg #[.int .i64 2, .int .i64 ((i.val : Nat) : Int), .int .i64 ((j.val : Nat) : Int)])]) (.cons rfl (.cons rfl .nil)) ?_
  have r1 := rm.c
  have r2 := rm.a
  have r3 := rm.lo
  have r4 := rm.hi
  refine Gx.seq ?_
  refine Gx.region ?_
  refine Gx.eff rfl rfl rfl (eff_box rfl rfl (vs := [.int .i64 2, .int .i64 ((i.val : Nat) : Int), .int .i64 ((j.val : Nat) : Int)]) rfl) ?_
  rintro _ _ ⟨b1, rfl, rfl⟩
  refine Gx.val rfl rfl rfl (val_assign rfl rfl) ?_
  refine Gx.done ?_
  refine Gx.thenN ?_
  refine Gx.seq ?_
  refine Gx.regionQ Try.mixed (by kernel_rfl) ?_
  refine Gq.val rfl rfl rfl (val_move rfl rfl) ?_
  refine Gq.val rfl rfl rfl (val_nilCheck rfl rfl) ?_
  refine Gq.val rfl rfl rfl (Val.cast (val_fieldAddr rfl Try.underlying39 rfl Try.ty36 rfl rfl) (v' := ptr S 0) rfl) ?_
  refine Gq.val rfl rfl rfl (val_load rfl Try.ty36 rfl rfl (cell_rec (k := 1) rfl rfl)) ?_
  refine Gq.val rfl rfl rfl (Val.cast (val_fieldAddr rfl Try.underlying32 rfl Try.ty3 rfl rfl) (v' := ptr b1 1) rfl) ?_
  refine Gq.val rfl rfl rfl (val_load rfl Try.ty3 rfl rfl (cell_rec (k := 0) rfl rfl)) ?_
  refine Gq.val rfl rfl rfl (val_ixa rfl Try.underlying36 Try.ty41 rfl rfl (j := i.val) (rfl) (reach_own (k := 2) rfl hx)) ?_
  refine Gq.val rfl rfl rfl (val_assign rfl rfl) ?_
  refine Gq.done ?_
  refine Gx.thenN ?_
  refine Gx.seq ?_
  -- region 2, in whatever order
  refine Gx.ones 4 (Gx.norm (l' := [Hp.rec_ b1 [.int .i64 2, .int .i64 ((i.val : Nat) : Int), .int .i64 ((j.val : Nat) : Int)], Hp.rec_ S [pv, .map (some mc), .map (some ma), .bool dn_], Hp.own FP 4 pv ps, Hp.map Try.prog 45 pairL vN mc ca, Hp.map Try.prog 45 pairL vN ma an, R, 1, 1, 1, 1]) rfl ?_)
  obtain ⟨pp2x6, pp2x6e⟩ : ∃ p : Done → Hp, p = fun d => cond (dn d 12) (Hp.rec_ (pB (dv d 10)) [.int .i64 ((j.val : Nat) : Int), .int .i64 ((i.val : Nat) : Int)]) (cond (dn d 10) (Hp.rec_ (pB (dv d 10)) [.int .i64 0, .int .i64 0]) (1)) := ⟨_, rfl⟩
  obtain ⟨pp2x7, pp2x7e⟩ : ∃ p : Done → Hp, p = fun d => cond (dn d 13) (Hp.rec_ (pB (dv d 11)) [.int .i64 ((i.val : Nat) : Int), .int .i64 ((j.val : Nat) : Int)]) (cond (dn d 11) (Hp.rec_ (pB (dv d 11)) [.int .i64 0, .int .i64 0]) (1)) := ⟨_, rfl⟩
  obtain ⟨pp2x8, pp2x8e⟩ : ∃ p : Done → Hp, p = fun d => cond (dn d 10) (Hp.pure (dv d 10 = ptr (pB (dv d 10)) 0)) 1 := ⟨_, rfl⟩
  obtain ⟨pp2x9, pp2x9e⟩ : ∃ p : Done → Hp, p = fun d => cond (dn d 11) (Hp.pure (dv d 11 = ptr (pB (dv d 11)) 0)) 1 := ⟨_, rfl⟩
  refine Gx.regionF [10, 11, 12, 13] [0, 1, 2, 3, 4, 5, 6, 7, 8, 9] (fun ιi => cond (Nat.beq ιi 8) [Hp.rec_ b1 [.int .i64 2, .int .i64 ((i.val : Nat) : Int), .int .i64 ((j.val : Nat) : Int)]] (cond (Nat.beq ιi 6) [Hp.rec_ b1 [.int .i64 2, .int .i64 ((i.val : Nat) : Int), .int .i64 ((j.val : Nat) : Int)]] (cond (Nat.beq ιi 3) [Hp.rec_ b1 [.int .i64 2, .int .i64 ((i.val : Nat) : Int), .int .i64 ((j.val : Nat) : Int)]] (cond (Nat.beq ιi 1) [Hp.rec_ b1 [.int .i64 2, .int .i64 ((i.val : Nat) : Int), .int .i64 ((j.val : Nat) : Int)]] ([]))))) (fun d => [Hp.rec_ b1 [.int .i64 2, .int .i64 ((i.val : Nat) : Int), .int .i64 ((j.val : Nat) : Int)], Hp.rec_ S [pv, .map (some mc), .map (some ma), .bool dn_], Hp.own FP 4 pv ps, Hp.map Try.prog 45 pairL vN mc ca, Hp.map Try.prog 45 pairL vN ma an, R, pp2x6 d, pp2x7 d, pp2x8 d, pp2x9 d]) Try.mixed (by kernel_rfl) (by kernel_rfl) (by rw [pp2x6e]; rw [pp2x7e]; rw [pp2x8e]; rw [pp2x9e]; rfl) ?_ ?_
  · intro ιi d w hc hs H
    by_cases hn1 : ιi = 1
    · subst hn1
      exact H.only (k := 0) rfl rfl
    · by_cases hn3 : ιi = 3
      · subst hn3
        exact H.only (k := 0) rfl rfl
      · by_cases hn6 : ιi = 6
        · subst hn6
          exact H.only (k := 0) rfl rfl
        · by_cases hn8 : ιi = 8
          · subst hn8
            exact H.only (k := 0) rfl rfl
          · refine Sat.listed (l := []) H.noneL ?_
            simp only [beq_no hn1, beq_no hn3, beq_no hn6, beq_no hn8, cond_false]
  refine Gp.val rfl rfl rfl rfl (Val.cast (val_fieldAddr rfl Try.underlying32 rfl Try.ty3 rfl rfl) (v' := ptr b1 2) rfl) ?_
  refine Gp.val rfl rfl rfl rfl (val_load rfl Try.ty3 rfl rfl (cell_rec (k := 0) rfl rfl)) ?_
  refine Gp.val rfl rfl rfl rfl (Val.cast (val_fieldAddr rfl Try.underlying32 rfl Try.ty3 rfl rfl) (v' := ptr b1 1) rfl) ?_
  refine Gp.val rfl rfl rfl rfl (val_load rfl Try.ty3 rfl rfl (cell_rec (k := 0) rfl rfl)) ?_
  refine Gp.val rfl rfl rfl rfl (val_build rfl (qs := [(0, .int .i64 ((j.val : Nat) : Int)), (1, .int .i64 ((i.val : Nat) : Int))]) rfl rfl (fun w => by go_simp) (v := .agg #[.int .i64 ((j.val : Nat) : Int), .int .i64 ((i.val : Nat) : Int)])) ?_
  refine Gp.val rfl rfl rfl rfl (Val.cast (val_fieldAddr rfl Try.underlying32 rfl Try.ty3 rfl rfl) (v' := ptr b1 1) rfl) ?_
  refine Gp.val rfl rfl rfl rfl (val_load rfl Try.ty3 rfl rfl (cell_rec (k := 0) rfl rfl)) ?_
  refine Gp.val rfl rfl rfl rfl (Val.cast (val_fieldAddr rfl Try.underlying32 rfl Try.ty3 rfl rfl) (v' := ptr b1 2) rfl) ?_
  refine Gp.val rfl rfl rfl rfl (val_load rfl Try.ty3 rfl rfl (cell_rec (k := 0) rfl rfl)) ?_
  refine Gp.val rfl rfl rfl rfl (val_build rfl (qs := [(0, .int .i64 ((i.val : Nat) : Int)), (1, .int .i64 ((j.val : Nat) : Int))]) rfl rfl (fun w => by go_simp) (v := .agg #[.int .i64 ((i.val : Nat) : Int), .int .i64 ((j.val : Nat) : Int)])) ?_
  refine Gp.done (uniq_of (by kernel_rfl)) (by rfl) (by kernel_rfl) ⟨⟨_, rfl, ?_⟩, ⟨_, rfl, ?_⟩, ⟨_, rfl, ?_⟩, ⟨_, rfl, ?_⟩, trivial⟩ ?_
  · intro d hc hdi hpre a w hf H
    change Sat _ _ (sep [Hp.rec_ b1 [.int .i64 2, .int .i64 ((i.val : Nat) : Int), .int .i64 ((j.val : Nat) : Int)], Hp.rec_ S [pv, .map (some mc), .map (some ma), .bool dn_], Hp.own FP 4 pv ps, Hp.map Try.prog 45 pairL vN mc ca, Hp.map Try.prog 45 pairL vN ma an, R, pp2x6 d, pp2x7 d, pp2x8 d, pp2x9 d]) at H
    have q10 := hdi
    have q12 : dn d 12 = false := hc.not 12 10 rfl (by kernel_rfl) q10
    have q13 : dn d 13 = false := hc.not 13 10 rfl (by kernel_rfl) q10
    have n6 : pp2x6 d = 1 := by rw [pp2x6e]; simp only [q10, q12, cond_true, cond_false]
    have n8 : pp2x8 d = 1 := by rw [pp2x8e]; simp only [q10, cond_true, cond_false]
    rw [n6, n8] at H
    refine EffAt.mono (Eff.at_ hf.slots H (eff_alloc rfl Try.ty45 (vs := [.int .i64 0, .int .i64 0]) rfl)) ?_
    rintro _ w2 ⟨_, ⟨b3, rfl, rfl⟩, H2⟩
    have H2 := Sat.fillAt H2 (k := 6) rfl
    have H2 := (Sat.pureI (p := ptr b3 0 = ptr b3 0) rfl H2).fillAt (k := 8) rfl
    obtain ⟨d2, hd2⟩ : ∃ d2, d2 = upd d 10 (ptr b3 0) := ⟨_, rfl⟩
    have m10 : dn d2 10 = true := by rw [hd2]; rfl
    have m12 : dn d2 12 = false := by rw [hd2]; exact q12
    have m13 : dn d2 13 = false := by rw [hd2]; exact q13
    rw [← hd2]
    change Sat _ _ (sep [Hp.rec_ b1 [.int .i64 2, .int .i64 ((i.val : Nat) : Int), .int .i64 ((j.val : Nat) : Int)], Hp.rec_ S [pv, .map (some mc), .map (some ma), .bool dn_], Hp.own FP 4 pv ps, Hp.map Try.prog 45 pairL vN mc ca, Hp.map Try.prog 45 pairL vN ma an, R, pp2x6 d2, pp2x7 d2, pp2x8 d2, pp2x9 d2])
    have u6 := congrFun pp2x6e d2
    simp only [m10, m12, cond_true, cond_false] at u6
    have u7 : pp2x7 d2 = pp2x7 d := by rw [hd2, pp2x7e]; rfl
    have u8 := congrFun pp2x8e d2
    simp only [m10, cond_true, cond_false] at u8
    have u9 : pp2x9 d2 = pp2x9 d := by rw [hd2, pp2x9e]; rfl
    rw [u6, u7, u8, u9]
    subst hd2
    exact H2
  · intro d hc hdi hpre a w hf H
    change Sat _ _ (sep [Hp.rec_ b1 [.int .i64 2, .int .i64 ((i.val : Nat) : Int), .int .i64 ((j.val : Nat) : Int)], Hp.rec_ S [pv, .map (some mc), .map (some ma), .bool dn_], Hp.own FP 4 pv ps, Hp.map Try.prog 45 pairL vN mc ca, Hp.map Try.prog 45 pairL vN ma an, R, pp2x6 d, pp2x7 d, pp2x8 d, pp2x9 d]) at H
    have q11 := hdi
    have q12 : dn d 12 = false := hc.not 12 11 rfl (by kernel_rfl) q11
    have q13 : dn d 13 = false := hc.not 13 11 rfl (by kernel_rfl) q11
    have n7 : pp2x7 d = 1 := by rw [pp2x7e]; simp only [q11, q13, cond_true, cond_false]
    have n9 : pp2x9 d = 1 := by rw [pp2x9e]; simp only [q11, cond_true, cond_false]
    rw [n7, n9] at H
    refine EffAt.mono (Eff.at_ hf.slots H (eff_alloc rfl Try.ty45 (vs := [.int .i64 0, .int .i64 0]) rfl)) ?_
    rintro _ w2 ⟨_, ⟨b4, rfl, rfl⟩, H2⟩
    have H2 := Sat.fillAt H2 (k := 7) rfl
    have H2 := (Sat.pureI (p := ptr b4 0 = ptr b4 0) rfl H2).fillAt (k := 9) rfl
    obtain ⟨d2, hd2⟩ : ∃ d2, d2 = upd d 11 (ptr b4 0) := ⟨_, rfl⟩
    have m11 : dn d2 11 = true := by rw [hd2]; rfl
    have m12 : dn d2 12 = false := by rw [hd2]; exact q12
    have m13 : dn d2 13 = false := by rw [hd2]; exact q13
    rw [← hd2]
    change Sat _ _ (sep [Hp.rec_ b1 [.int .i64 2, .int .i64 ((i.val : Nat) : Int), .int .i64 ((j.val : Nat) : Int)], Hp.rec_ S [pv, .map (some mc), .map (some ma), .bool dn_], Hp.own FP 4 pv ps, Hp.map Try.prog 45 pairL vN mc ca, Hp.map Try.prog 45 pairL vN ma an, R, pp2x6 d2, pp2x7 d2, pp2x8 d2, pp2x9 d2])
    have u6 : pp2x6 d2 = pp2x6 d := by rw [hd2, pp2x6e]; rfl
    have u7 := congrFun pp2x7e d2
    simp only [m11, m13, cond_true, cond_false] at u7
    have u8 : pp2x8 d2 = pp2x8 d := by rw [hd2, pp2x8e]; rfl
    have u9 := congrFun pp2x9e d2
    simp only [m11, cond_true, cond_false] at u9
    rw [u6, u7, u8, u9]
    subst hd2
    exact H2
  · intro d hc hdi hpre a w hf H
    change Sat _ _ (sep [Hp.rec_ b1 [.int .i64 2, .int .i64 ((i.val : Nat) : Int), .int .i64 ((j.val : Nat) : Int)], Hp.rec_ S [pv, .map (some mc), .map (some ma), .bool dn_], Hp.own FP 4 pv ps, Hp.map Try.prog 45 pairL vN mc ca, Hp.map Try.prog 45 pairL vN ma an, R, pp2x6 d, pp2x7 d, pp2x8 d, pp2x9 d]) at H
    have q10 : dn d 10 = true := hpre 10 (by kernel_rfl)
    have q10 : dn d 10 = true := hpre 10 (by kernel_rfl)
    have q11 : dn d 11 = true := hpre 11 (by kernel_rfl)
    have q12 := hdi
    have q13 : dn d 13 = false := hc.not 13 12 rfl (by kernel_rfl) q12
    have e10 : dv d 10 = ptr (pB (dv d 10)) 0 := H.factAt (k := 8) rfl (by rw [pp2x8e]; simp only [q10, cond_true])
    have e11 : dv d 11 = ptr (pB (dv d 11)) 0 := H.factAt (k := 9) rfl (by rw [pp2x9e]; simp only [q11, cond_true])
    have n6 : pp2x6 d = Hp.rec_ (pB (dv d 10)) [.int .i64 0, .int .i64 0] := by rw [pp2x6e]; simp only [q10, q12, cond_true, cond_false]
    have n7 : pp2x7 d = Hp.rec_ (pB (dv d 11)) [.int .i64 0, .int .i64 0] := by rw [pp2x7e]; simp only [q11, q13, cond_true, cond_false]
    rw [n6, n7] at H
    have s10 := hf.add hf.slots 10 rfl (by kernel_rfl) rfl q10 (v := ptr (pB (dv d 10)) 0) e10
    refine EffAt.mono (Eff.at_ s10 H (eff_store rfl Try.ty45 rfl rfl (us := [.int .i64 ((j.val : Nat) : Int), .int .i64 ((i.val : Nat) : Int)]) rfl rfl rfl (k := 6) rfl rfl (vs' := [.int .i64 ((j.val : Nat) : Int), .int .i64 ((i.val : Nat) : Int)]) rfl (l' := [Hp.rec_ b1 [.int .i64 2, .int .i64 ((i.val : Nat) : Int), .int .i64 ((j.val : Nat) : Int)], Hp.rec_ S [pv, .map (some mc), .map (some ma), .bool dn_], Hp.own FP 4 pv ps, Hp.map Try.prog 45 pairL vN mc ca, Hp.map Try.prog 45 pairL vN ma an, R, Hp.rec_ (pB (dv d 10)) [.int .i64 ((j.val : Nat) : Int), .int .i64 ((i.val : Nat) : Int)], Hp.rec_ (pB (dv d 11)) [.int .i64 0, .int .i64 0], pp2x8 d, pp2x9 d]) rfl)) ?_
    rintro v w2 ⟨_, rfl, H2⟩
    obtain ⟨d2, hd2⟩ : ∃ d2, d2 = upd d 12 v := ⟨_, rfl⟩
    have m12 : dn d2 12 = true := by rw [hd2]; rfl
    have m10 : dn d2 10 = true := by rw [hd2]; exact q10
    have m11 : dn d2 11 = true := by rw [hd2]; exact q11
    have m13 : dn d2 13 = false := by rw [hd2]; exact q13
    rw [← hd2]
    change Sat _ _ (sep [Hp.rec_ b1 [.int .i64 2, .int .i64 ((i.val : Nat) : Int), .int .i64 ((j.val : Nat) : Int)], Hp.rec_ S [pv, .map (some mc), .map (some ma), .bool dn_], Hp.own FP 4 pv ps, Hp.map Try.prog 45 pairL vN mc ca, Hp.map Try.prog 45 pairL vN ma an, R, pp2x6 d2, pp2x7 d2, pp2x8 d2, pp2x9 d2])
    have u6 := congrFun pp2x6e d2
    simp only [m10, m12, cond_true, cond_false] at u6
    have u7 := congrFun pp2x7e d2
    simp only [m11, m13, cond_true, cond_false] at u7
    have u8 : pp2x8 d2 = pp2x8 d := by rw [hd2, pp2x8e]; rfl
    have u9 : pp2x9 d2 = pp2x9 d := by rw [hd2, pp2x9e]; rfl
    rw [u6, u7, u8, u9]
    subst hd2
    exact H2
  · intro d hc hdi hpre a w hf H
    change Sat _ _ (sep [Hp.rec_ b1 [.int .i64 2, .int .i64 ((i.val : Nat) : Int), .int .i64 ((j.val : Nat) : Int)], Hp.rec_ S [pv, .map (some mc), .map (some ma), .bool dn_], Hp.own FP 4 pv ps, Hp.map Try.prog 45 pairL vN mc ca, Hp.map Try.prog 45 pairL vN ma an, R, pp2x6 d, pp2x7 d, pp2x8 d, pp2x9 d]) at H
    have q11 : dn d 11 = true := hpre 11 (by kernel_rfl)
    have q12 : dn d 12 = true := hpre 12 (by kernel_rfl)
    have q10 : dn d 10 = true := hpre 10 (by kernel_rfl)
    have q11 : dn d 11 = true := hpre 11 (by kernel_rfl)
    have q12 : dn d 12 = true := hpre 12 (by kernel_rfl)
    have q13 := hdi
    have e11 : dv d 11 = ptr (pB (dv d 11)) 0 := H.factAt (k := 9) rfl (by rw [pp2x9e]; simp only [q11, cond_true])
    have e10 : dv d 10 = ptr (pB (dv d 10)) 0 := H.factAt (k := 8) rfl (by rw [pp2x8e]; simp only [q10, cond_true])
    have n6 : pp2x6 d = Hp.rec_ (pB (dv d 10)) [.int .i64 ((j.val : Nat) : Int), .int .i64 ((i.val : Nat) : Int)] := by rw [pp2x6e]; simp only [q10, q12, cond_true, cond_false]
    have n7 : pp2x7 d = Hp.rec_ (pB (dv d 11)) [.int .i64 0, .int .i64 0] := by rw [pp2x7e]; simp only [q11, q13, cond_true, cond_false]
    rw [n6, n7] at H
    have s11 := hf.add hf.slots 11 rfl (by kernel_rfl) rfl q11 (v := ptr (pB (dv d 11)) 0) e11
    refine EffAt.mono (Eff.at_ s11 H (eff_store rfl Try.ty45 rfl rfl (us := [.int .i64 ((i.val : Nat) : Int), .int .i64 ((j.val : Nat) : Int)]) rfl rfl rfl (k := 7) rfl rfl (vs' := [.int .i64 ((i.val : Nat) : Int), .int .i64 ((j.val : Nat) : Int)]) rfl (l' := [Hp.rec_ b1 [.int .i64 2, .int .i64 ((i.val : Nat) : Int), .int .i64 ((j.val : Nat) : Int)], Hp.rec_ S [pv, .map (some mc), .map (some ma), .bool dn_], Hp.own FP 4 pv ps, Hp.map Try.prog 45 pairL vN mc ca, Hp.map Try.prog 45 pairL vN ma an, R, Hp.rec_ (pB (dv d 10)) [.int .i64 ((j.val : Nat) : Int), .int .i64 ((i.val : Nat) : Int)], Hp.rec_ (pB (dv d 11)) [.int .i64 ((i.val : Nat) : Int), .int .i64 ((j.val : Nat) : Int)], pp2x8 d, pp2x9 d]) rfl)) ?_
    rintro v w2 ⟨_, rfl, H2⟩
    obtain ⟨d2, hd2⟩ : ∃ d2, d2 = upd d 13 v := ⟨_, rfl⟩
    have m13 : dn d2 13 = true := by rw [hd2]; rfl
    have m11 : dn d2 11 = true := by rw [hd2]; exact q11
    have m12 : dn d2 12 = true := by rw [hd2]; exact q12
    have m10 : dn d2 10 = true := by rw [hd2]; exact q10
    rw [← hd2]
    change Sat _ _ (sep [Hp.rec_ b1 [.int .i64 2, .int .i64 ((i.val : Nat) : Int), .int .i64 ((j.val : Nat) : Int)], Hp.rec_ S [pv, .map (some mc), .map (some ma), .bool dn_], Hp.own FP 4 pv ps, Hp.map Try.prog 45 pairL vN mc ca, Hp.map Try.prog 45 pairL vN ma an, R, pp2x6 d2, pp2x7 d2, pp2x8 d2, pp2x9 d2])
    have u6 := congrFun pp2x6e d2
    simp only [m10, m12, cond_true, cond_false] at u6
    have u7 := congrFun pp2x7e d2
    simp only [m11, m13, cond_true, cond_false] at u7
    have u8 : pp2x8 d2 = pp2x8 d := by rw [hd2, pp2x8e]; rfl
    have u9 : pp2x9 d2 = pp2x9 d := by rw [hd2, pp2x9e]; rfl
    rw [u6, u7, u8, u9]
    subst hd2
    exact H2
  · intro d hc hall a hf w H
    change Sat _ _ (sep [Hp.rec_ b1 [.int .i64 2, .int .i64 ((i.val : Nat) : Int), .int .i64 ((j.val : Nat) : Int)], Hp.rec_ S [pv, .map (some mc), .map (some ma), .bool dn_], Hp.own FP 4 pv ps, Hp.map Try.prog 45 pairL vN mc ca, Hp.map Try.prog 45 pairL vN ma an, R, pp2x6 d, pp2x7 d, pp2x8 d, pp2x9 d]) at H
    have q10 : dn d 10 = true := hall 10 rfl
    have q11 : dn d 11 = true := hall 11 rfl
    have q12 : dn d 12 = true := hall 12 rfl
    have q13 : dn d 13 = true := hall 13 rfl
    have e10 : dv d 10 = ptr (pB (dv d 10)) 0 := H.factAt (k := 8) rfl (by rw [pp2x8e]; simp only [q10, cond_true])
    have e11 : dv d 11 = ptr (pB (dv d 11)) 0 := H.factAt (k := 9) rfl (by rw [pp2x9e]; simp only [q11, cond_true])
    have n6 : pp2x6 d = Hp.rec_ (pB (dv d 10)) [.int .i64 ((j.val : Nat) : Int), .int .i64 ((i.val : Nat) : Int)] := by rw [pp2x6e]; simp only [q10, q12, cond_true, cond_false]
    have n7 : pp2x7 d = Hp.rec_ (pB (dv d 11)) [.int .i64 ((i.val : Nat) : Int), .int .i64 ((j.val : Nat) : Int)] := by rw [pp2x7e]; simp only [q11, q13, cond_true, cond_false]
    have n8 : pp2x8 d = Hp.pure (dv d 10 = ptr (pB (dv d 10)) 0) := by rw [pp2x8e]; simp only [q10, cond_true]
    have n9 : pp2x9 d = Hp.pure (dv d 11 = ptr (pB (dv d 11)) 0) := by rw [pp2x9e]; simp only [q11, cond_true]
    rw [n6, n7, n8, n9] at H
    clear n6 n7 n8 n9
    obtain ⟨z5, hz5⟩ : ∃ b, b = pB (dv d 10) := ⟨_, rfl⟩
    rw [← hz5] at e10 H
    have s10 := hf.add hf.slots 10 rfl rfl rfl q10 (v := ptr z5 0) e10
    obtain ⟨z6, hz6⟩ : ∃ b, b = pB (dv d 11) := ⟨_, rfl⟩
    rw [← hz6] at e11 H
    have s11 := hf.add s10 11 rfl rfl rfl q11 (v := ptr z6 0) e11
    refine Gx.use s11 H ?_
    refine Gx.drop 9 rfl ?_
    refine Gx.drop 8 rfl ?_
    refine Gx.norm (l' := [Hp.rec_ b1 [.int .i64 2, .int .i64 ((i.val : Nat) : Int), .int .i64 ((j.val : Nat) : Int)], Hp.rec_ S [pv, .map (some mc), .map (some ma), .bool dn_], Hp.own FP 4 pv ps, Hp.map Try.prog 45 pairL vN mc ca, Hp.map Try.prog 45 pairL vN ma an, R, Hp.rec_ z5 [.int .i64 ((j.val : Nat) : Int), .int .i64 ((i.val : Nat) : Int)], Hp.rec_ z6 [.int .i64 ((i.val : Nat) : Int), .int .i64 ((j.val : Nat) : Int)]]) rfl ?_
    refine Gx.thenN ?_
    refine Gx.seq ?_
    refine Gx.seq ?_
    refine Gx.region ?_
    refine Gx.val rfl rfl rfl (Val.cast (val_fieldAddr rfl Try.underlying32 rfl Try.ty3 rfl rfl) (v' := ptr b1 0) rfl) ?_
    refine Gx.val rfl rfl rfl (val_load rfl Try.ty3 rfl rfl (cell_rec (k := 0) rfl rfl)) ?_
    refine Gx.done ?_
    refine Gx.thenN ?_
    refine Gx.block ?_
    refine Gx.seq ?_
    refine Gx.seq ?_
    refine Gx.region ?_
    refine Gx.val rfl rfl rfl (Val.cast (val_eql rfl rfl rfl) (v' := .bool false) rfl) ?_
    refine Gx.val rfl rfl rfl (val_assign rfl rfl) ?_
    refine Gx.done ?_
    refine Gx.thenN ?_
    refine Gx.f rfl ?_
    refine Gx.region ?_
    refine Gx.val rfl rfl rfl (Val.cast (val_eql rfl rfl rfl) (v' := .bool false) rfl) ?_
    refine Gx.val rfl rfl rfl (val_assign rfl rfl) ?_
    refine Gx.done ?_
    refine Gx.thenN ?_
    refine Gx.f rfl ?_
    refine Gx.seq ?_
    refine Gx.region ?_
    refine Gx.val rfl rfl rfl (Val.cast (val_eql rfl rfl rfl) (v' := .bool true) rfl) ?_
    refine Gx.val rfl rfl rfl (val_assign rfl rfl) ?_
    refine Gx.done ?_
    refine Gx.thenN ?_
    refine Gx.t rfl ?_
    refine Gx.seq ?_
    refine Gx.seq ?_
    refine Gx.regionO (fun j => j == 5) 6 [0, 1, 2, 3, 4, 5] (fun us => match us with | [] => [Hp.rec_ b1 [.int .i64 2, .int .i64 ((i.val : Nat) : Int), .int .i64 ((j.val : Nat) : Int)], Hp.rec_ S [pv, .map (some mc), .map (some ma), .bool dn_], Hp.own FP 4 pv ps, Hp.map Try.prog 45 pairL vN mc ca, Hp.map Try.prog 45 pairL vN ma an, R, Hp.rec_ z5 [.int .i64 ((j.val : Nat) : Int), .int .i64 ((i.val : Nat) : Int)], Hp.rec_ z6 [.int .i64 ((i.val : Nat) : Int), .int .i64 ((j.val : Nat) : Int)]] | u1 :: _ => [Hp.map Try.prog 45 pairL vN mc (dec ca (j, i)), Hp.rec_ b1 [.int .i64 2, .int .i64 ((i.val : Nat) : Int), .int .i64 ((j.val : Nat) : Int)], Hp.rec_ S [pv, .map (some mc), .map (some ma), .bool dn_], Hp.own FP 4 pv ps, Hp.map Try.prog 45 pairL vN ma an, R, Hp.rec_ z5 [.int .i64 ((j.val : Nat) : Int), .int .i64 ((i.val : Nat) : Int)], Hp.rec_ z6 [.int .i64 ((i.val : Nat) : Int), .int .i64 ((j.val : Nat) : Int)]]) Try.mixed (by kernel_rfl) rfl ?_
    refine Gw.val rfl rfl rfl rfl rfl (fun us => val_move rfl rfl) ?_
    refine Gw.val rfl rfl rfl rfl rfl (fun us => val_nilCheck rfl rfl) ?_
    refine Gw.val rfl rfl rfl rfl rfl (fun us => Val.cast (val_fieldAddr rfl Try.underlying39 rfl Try.ty37 rfl rfl) (v' := ptr S 1) rfl) ?_
    refine Gw.val0 rfl rfl rfl (by kernel_rfl) rfl rfl (val_load rfl Try.ty37 rfl rfl (cell_rec (k := 1) rfl rfl)) ?_
    refine Gw.val0 rfl rfl rfl (by kernel_rfl) rfl rfl (Val.cast (val_loadA rfl Try.ty45 rfl rfl rfl (cells_rec (k := 6) rfl)) (v' := .agg #[.int .i64 ((j.val : Nat) : Int), .int .i64 ((i.val : Nat) : Int)]) rfl) ?_
    refine Gw.chg rfl rfl rfl rfl rfl (fun v => v = .bool true) (eff_call (vs := [.map (some mc), .agg #[.int .i64 ((j.val : Nat) : Int), .int .i64 ((i.val : Nat) : Int)]]) rfl Try.fn13 rfl (fun w H => arrive_yes hc_ rm.c (rm.cc _) (H.at_ (k := 3) rfl))) ?_
    rintro _ rfl
    refine Gw.done ?_
    refine Gx.norm (l' := [Hp.map Try.prog 45 pairL vN mc (dec ca (j, i)), Hp.rec_ b1 [.int .i64 2, .int .i64 ((i.val : Nat) : Int), .int .i64 ((j.val : Nat) : Int)], Hp.rec_ S [pv, .map (some mc), .map (some ma), .bool dn_], Hp.own FP 4 pv ps, Hp.map Try.prog 45 pairL vN ma an, R, Hp.rec_ z5 [.int .i64 ((j.val : Nat) : Int), .int .i64 ((i.val : Nat) : Int)], Hp.rec_ z6 [.int .i64 ((i.val : Nat) : Int), .int .i64 ((j.val : Nat) : Int)]]) rfl ?_
    refine Gx.val rfl rfl rfl (Val.cast (val_not rfl rfl) (v' := .bool false) rfl) ?_
    refine Gx.done ?_
    refine Gx.thenN ?_
    refine Gx.f rfl ?_
    refine Gx.skip ?_
    refine Gx.thenN ?_
    refine Gx.seq ?_
    refine Gx.region ?_
    refine Gx.val rfl rfl rfl (val_move rfl rfl) ?_
    refine Gx.val rfl rfl rfl (val_nilCheck rfl rfl) ?_
    refine Gx.val rfl rfl rfl (Val.cast (val_fieldAddr rfl Try.underlying41 rfl Try.ty4 rfl rfl) (v' := ptr (sB pv) (sO pv + i.val * 4)) rfl) ?_
    refine Gx.eff0 rfl rfl (eff_storeEl (i := 0) (e' := (⟨true, x.bound, x.to, x.owes⟩ : Pr)) rfl Try.ty4 rfl rfl rfl rfl (k := 3) rfl FP_len hx (by decide) (rfl) (l' := [Hp.map Try.prog 45 pairL vN mc (dec ca (j, i)), Hp.rec_ b1 [.int .i64 2, .int .i64 ((i.val : Nat) : Int), .int .i64 ((j.val : Nat) : Int)], Hp.rec_ S [pv, .map (some mc), .map (some ma), .bool dn_], Hp.own FP 4 pv (ps.set i.val (⟨true, x.bound, x.to, x.owes⟩ : Pr)), Hp.map Try.prog 45 pairL vN ma an, R, Hp.rec_ z5 [.int .i64 ((j.val : Nat) : Int), .int .i64 ((i.val : Nat) : Int)], Hp.rec_ z6 [.int .i64 ((i.val : Nat) : Int), .int .i64 ((j.val : Nat) : Int)]]) rfl) ?_
    rintro _ _ rfl
    refine Gx.done ?_
    refine Gx.thenN ?_
    refine Gx.seq ?_
    refine Gx.region ?_
    refine Gx.val rfl rfl rfl (val_move rfl rfl) ?_
    refine Gx.val rfl rfl rfl (val_nilCheck rfl rfl) ?_
    refine Gx.val rfl rfl rfl (Val.cast (val_fieldAddr rfl Try.underlying41 rfl Try.ty4 rfl rfl) (v' := ptr (sB pv) (sO pv + i.val * 4 + 1)) rfl) ?_
    refine Gx.val rfl rfl rfl (val_load rfl Try.ty4 rfl rfl (cell_own (i := 1) (k := 3) rfl (List.getElem?_set_self (List.getElem?_eq_some_iff.1 hx).1) rfl)) ?_
    refine Gx.done ?_
    refine Gx.thenN ?_
    refine Gx.boolF rfl (hbound) ?_
    refine Gx.regionO (fun j => j == 6) 9 [0, 1, 2, 3, 4, 5, 6, 7, 8] (fun us => match us with | [] => [Hp.map Try.prog 45 pairL vN mc (dec ca (j, i)), Hp.rec_ b1 [.int .i64 2, .int .i64 ((i.val : Nat) : Int), .int .i64 ((j.val : Nat) : Int)], Hp.rec_ S [pv, .map (some mc), .map (some ma), .bool dn_], Hp.own FP 4 pv (ps.set i.val (⟨true, x.bound, x.to, x.owes⟩ : Pr)), Hp.map Try.prog 45 pairL vN ma an, R, Hp.rec_ z5 [.int .i64 ((j.val : Nat) : Int), .int .i64 ((i.val : Nat) : Int)], Hp.rec_ z6 [.int .i64 ((i.val : Nat) : Int), .int .i64 ((j.val : Nat) : Int)]] | u1 :: _ => [Hp.map Try.prog 45 pairL vN mc (dec ca (j, i)), Hp.rec_ b1 [.int .i64 2, .int .i64 ((i.val : Nat) : Int), .int .i64 ((j.val : Nat) : Int)], Hp.rec_ S [pv, .map (some mc), .map (some ma), .bool dn_], Hp.own FP 4 pv ((ps.set i.val (⟨true, x.bound, x.to, x.owes⟩ : Pr)).set i.val (⟨true, true, x.to, x.owes⟩ : Pr)), Hp.map Try.prog 45 pairL vN ma an, R, Hp.rec_ z5 [.int .i64 ((j.val : Nat) : Int), .int .i64 ((i.val : Nat) : Int)], Hp.rec_ z6 [.int .i64 ((i.val : Nat) : Int), .int .i64 ((j.val : Nat) : Int)]]) Try.mixed (by kernel_rfl) rfl ?_
    refine Gw.val rfl rfl rfl rfl rfl (fun us => val_move rfl rfl) ?_
    refine Gw.val rfl rfl rfl rfl rfl (fun us => val_move rfl rfl) ?_
    refine Gw.val rfl rfl rfl rfl rfl (fun us => Val.cast (val_fieldAddr rfl Try.underlying32 rfl Try.ty3 rfl rfl) (v' := ptr b1 2) rfl) ?_
    refine Gw.val rfl rfl rfl rfl rfl (fun us => match us with | [] => val_load rfl Try.ty3 rfl rfl (cell_rec (k := 1) rfl rfl) | u1 :: _ => val_load rfl Try.ty3 rfl rfl (cell_rec (k := 1) rfl rfl)) ?_
    refine Gw.val rfl rfl rfl rfl rfl (fun us => val_nilCheck rfl rfl) ?_
    refine Gw.val rfl rfl rfl rfl rfl (fun us => Val.cast (val_fieldAddr rfl Try.underlying41 rfl Try.ty4 rfl rfl) (v' := ptr (sB pv) (sO pv + i.val * 4 + 1)) rfl) ?_
    refine Gw.chg0 rfl rfl rfl rfl (Eff.mono (eff_storeEl (i := 1) (e' := (⟨true, true, x.to, x.owes⟩ : Pr)) rfl Try.ty4 rfl rfl rfl rfl (k := 3) rfl FP_len (List.getElem?_set_self (List.getElem?_eq_some_iff.1 hx).1) (by decide) (rfl) (l' := [Hp.map Try.prog 45 pairL vN mc (dec ca (j, i)), Hp.rec_ b1 [.int .i64 2, .int .i64 ((i.val : Nat) : Int), .int .i64 ((j.val : Nat) : Int)], Hp.rec_ S [pv, .map (some mc), .map (some ma), .bool dn_], Hp.own FP 4 pv ((ps.set i.val (⟨true, x.bound, x.to, x.owes⟩ : Pr)).set i.val (⟨true, true, x.to, x.owes⟩ : Pr)), Hp.map Try.prog 45 pairL vN ma an, R, Hp.rec_ z5 [.int .i64 ((j.val : Nat) : Int), .int .i64 ((i.val : Nat) : Int)], Hp.rec_ z6 [.int .i64 ((i.val : Nat) : Int), .int .i64 ((j.val : Nat) : Int)]]) rfl) (fun _ _ h => congrArg sep h)) (fun _ => ?_)
    refine Gw.val rfl rfl rfl rfl rfl (fun us => val_nilCheck rfl rfl) ?_
    refine Gw.val rfl rfl rfl rfl rfl (fun us => Val.cast (val_fieldAddr rfl Try.underlying41 rfl Try.ty3 rfl rfl) (v' := ptr (sB pv) (sO pv + i.val * 4 + 2)) rfl) ?_
    refine Gw.done ?_
    refine Gx.norm (l' := [Hp.map Try.prog 45 pairL vN mc (dec ca (j, i)), Hp.rec_ b1 [.int .i64 2, .int .i64 ((i.val : Nat) : Int), .int .i64 ((j.val : Nat) : Int)], Hp.rec_ S [pv, .map (some mc), .map (some ma), .bool dn_], Hp.own FP 4 pv ((ps.set i.val (⟨true, x.bound, x.to, x.owes⟩ : Pr)).set i.val (⟨true, true, x.to, x.owes⟩ : Pr)), Hp.map Try.prog 45 pairL vN ma an, R, Hp.rec_ z5 [.int .i64 ((j.val : Nat) : Int), .int .i64 ((i.val : Nat) : Int)], Hp.rec_ z6 [.int .i64 ((i.val : Nat) : Int), .int .i64 ((j.val : Nat) : Int)]]) rfl ?_
    refine Gx.eff0 rfl rfl (eff_storeEl (i := 2) (e' := (⟨true, true, (some j), x.owes⟩ : Pr)) rfl Try.ty3 rfl rfl rfl rfl (k := 3) rfl FP_len (List.getElem?_set_self (List.getElem?_eq_some_iff.1 (List.getElem?_set_self (List.getElem?_eq_some_iff.1 hx).1)).1) (by decide) (rfl) (l' := [Hp.map Try.prog 45 pairL vN mc (dec ca (j, i)), Hp.rec_ b1 [.int .i64 2, .int .i64 ((i.val : Nat) : Int), .int .i64 ((j.val : Nat) : Int)], Hp.rec_ S [pv, .map (some mc), .map (some ma), .bool dn_], Hp.own FP 4 pv (((ps.set i.val (⟨true, x.bound, x.to, x.owes⟩ : Pr)).set i.val (⟨true, true, x.to, x.owes⟩ : Pr)).set i.val (⟨true, true, (some j), x.owes⟩ : Pr)), Hp.map Try.prog 45 pairL vN ma an, R, Hp.rec_ z5 [.int .i64 ((j.val : Nat) : Int), .int .i64 ((i.val : Nat) : Int)], Hp.rec_ z6 [.int .i64 ((i.val : Nat) : Int), .int .i64 ((j.val : Nat) : Int)]]) rfl) ?_
    rintro _ _ rfl
    refine Gx.done ?_
    refine Gx.blkN ?_
    refine Gx.thenN ?_
    refine Gx.seq ?_
    refine Gx.region ?_
    refine Gx.val rfl rfl rfl (val_assign rfl rfl) ?_
    refine Gx.done ?_
    refine Gx.thenN ?_
    refine Gx.ret ?_
    refine Gx.drop 7 rfl ?_
    refine Gx.drop 6 rfl ?_
    refine Gx.drop 1 rfl ?_
    refine Gx.front 4 rfl ?_
    refine Gx.front 4 rfl ?_
    refine Gx.front 2 rfl ?_
    refine Gx.front 4 rfl ?_
    refine Gx.front 4 rfl ?_
    refine Gx.ret1 Try.results11 rfl ?_
    exact ⟨rfl, sep4 _ _ _ _ _⟩

theorem back_none {W w : World} {S : Nat} {pv : Value} {mc ma : Nat} {ps : List Pr} {ca an : Cn} {dn_ : Bool} {R : Hp} {i j : Sm} {x : Pr} (hx : ps[i.val]? = some x) (rm : Rooms ca an x) (hc_ : cnt an (j, i) = 0) (H : Sat W w (qAt S pv mc ma ps ca an dn_ R)) :
    Calls Try.prog 11 #[ptr S 0, .agg #[.int .i64 4, .int .i64 ((i.val : Nat) : Int), .int .i64 ((j.val : Nat) : Int)]] w (Ret W fun v l => v = .int .i64 5 ∧ sep l = qAt S pv mc ma ps ca an dn_ R) := by
  refine Gx.enter (l := [Hp.rec_ S [pv, .map (some mc), .map (some ma), .bool dn_], Hp.own FP 4 pv ps, Hp.map Try.prog 45 pairL vN mc ca, Hp.map Try.prog 45 pairL vN ma an, R]) Try.func11 rfl Try.ntmps11 rfl (H.frame4) ?_
  refine Gx.know (m' := [(0, ptr S 0), (1, .agg #[.int .i64 4, .int .i64 ((i.val : Nat) : Int), .int .i64 ((j.val : Nat) : Int)])]) (.cons rfl (.cons rfl .nil)) ?_
  have r1 := rm.c
  have r2 := rm.a
  have r3 := rm.lo
  have r4 := rm.hi
  refine Gx.seq ?_
  refine Gx.region ?_
  refine Gx.eff rfl rfl rfl (eff_box rfl rfl (vs := [.int .i64 4, .int .i64 ((i.val : Nat) : Int), .int .i64 ((j.val : Nat) : Int)]) rfl) ?_
  rintro _ _ ⟨b1, rfl, rfl⟩
  refine Gx.val rfl rfl rfl (val_assign rfl rfl) ?_
  refine Gx.done ?_
  refine Gx.thenN ?_
  refine Gx.seq ?_
  refine Gx.regionQ Try.mixed (by kernel_rfl) ?_
  refine Gq.val rfl rfl rfl (val_move rfl rfl) ?_
  refine Gq.val rfl rfl rfl (val_nilCheck rfl rfl) ?_
  refine Gq.val rfl rfl rfl (Val.cast (val_fieldAddr rfl Try.underlying39 rfl Try.ty36 rfl rfl) (v' := ptr S 0) rfl) ?_
  refine Gq.val rfl rfl rfl (val_load rfl Try.ty36 rfl rfl (cell_rec (k := 1) rfl rfl)) ?_
  refine Gq.val rfl rfl rfl (Val.cast (val_fieldAddr rfl Try.underlying32 rfl Try.ty3 rfl rfl) (v' := ptr b1 1) rfl) ?_
  refine Gq.val rfl rfl rfl (val_load rfl Try.ty3 rfl rfl (cell_rec (k := 0) rfl rfl)) ?_
  refine Gq.val rfl rfl rfl (val_ixa rfl Try.underlying36 Try.ty41 rfl rfl (j := i.val) (rfl) (reach_own (k := 2) rfl hx)) ?_
  refine Gq.val rfl rfl rfl (val_assign rfl rfl) ?_
  refine Gq.done ?_
  refine Gx.thenN ?_
  refine Gx.seq ?_
  -- region 2, in whatever order
  refine Gx.ones 4 (Gx.norm (l' := [Hp.rec_ b1 [.int .i64 4, .int .i64 ((i.val : Nat) : Int), .int .i64 ((j.val : Nat) : Int)], Hp.rec_ S [pv, .map (some mc), .map (some ma), .bool dn_], Hp.own FP 4 pv ps, Hp.map Try.prog 45 pairL vN mc ca, Hp.map Try.prog 45 pairL vN ma an, R, 1, 1, 1, 1]) rfl ?_)
  obtain ⟨pp2x6, pp2x6e⟩ : ∃ p : Done → Hp, p = fun d => cond (dn d 12) (Hp.rec_ (pB (dv d 10)) [.int .i64 ((j.val : Nat) : Int), .int .i64 ((i.val : Nat) : Int)]) (cond (dn d 10) (Hp.rec_ (pB (dv d 10)) [.int .i64 0, .int .i64 0]) (1)) := ⟨_, rfl⟩
  obtain ⟨pp2x7, pp2x7e⟩ : ∃ p : Done → Hp, p = fun d => cond (dn d 13) (Hp.rec_ (pB (dv d 11)) [.int .i64 ((i.val : Nat) : Int), .int .i64 ((j.val : Nat) : Int)]) (cond (dn d 11) (Hp.rec_ (pB (dv d 11)) [.int .i64 0, .int .i64 0]) (1)) := ⟨_, rfl⟩
  obtain ⟨pp2x8, pp2x8e⟩ : ∃ p : Done → Hp, p = fun d => cond (dn d 10) (Hp.pure (dv d 10 = ptr (pB (dv d 10)) 0)) 1 := ⟨_, rfl⟩
  obtain ⟨pp2x9, pp2x9e⟩ : ∃ p : Done → Hp, p = fun d => cond (dn d 11) (Hp.pure (dv d 11 = ptr (pB (dv d 11)) 0)) 1 := ⟨_, rfl⟩
  refine Gx.regionF [10, 11, 12, 13] [0, 1, 2, 3, 4, 5, 6, 7, 8, 9] (fun ιi => cond (Nat.beq ιi 8) [Hp.rec_ b1 [.int .i64 4, .int .i64 ((i.val : Nat) : Int), .int .i64 ((j.val : Nat) : Int)]] (cond (Nat.beq ιi 6) [Hp.rec_ b1 [.int .i64 4, .int .i64 ((i.val : Nat) : Int), .int .i64 ((j.val : Nat) : Int)]] (cond (Nat.beq ιi 3) [Hp.rec_ b1 [.int .i64 4, .int .i64 ((i.val : Nat) : Int), .int .i64 ((j.val : Nat) : Int)]] (cond (Nat.beq ιi 1) [Hp.rec_ b1 [.int .i64 4, .int .i64 ((i.val : Nat) : Int), .int .i64 ((j.val : Nat) : Int)]] ([]))))) (fun d => [Hp.rec_ b1 [.int .i64 4, .int .i64 ((i.val : Nat) : Int), .int .i64 ((j.val : Nat) : Int)], Hp.rec_ S [pv, .map (some mc), .map (some ma), .bool dn_], Hp.own FP 4 pv ps, Hp.map Try.prog 45 pairL vN mc ca, Hp.map Try.prog 45 pairL vN ma an, R, pp2x6 d, pp2x7 d, pp2x8 d, pp2x9 d]) Try.mixed (by kernel_rfl) (by kernel_rfl) (by rw [pp2x6e]; rw [pp2x7e]; rw [pp2x8e]; rw [pp2x9e]; rfl) ?_ ?_
  · intro ιi d w hc hs H
    by_cases hn1 : ιi = 1
    · subst hn1
      exact H.only (k := 0) rfl rfl
    · by_cases hn3 : ιi = 3
      · subst hn3
        exact H.only (k := 0) rfl rfl
      · by_cases hn6 : ιi = 6
        · subst hn6
          exact H.only (k := 0) rfl rfl
        · by_cases hn8 : ιi = 8
          · subst hn8
            exact H.only (k := 0) rfl rfl
          · refine Sat.listed (l := []) H.noneL ?_
            simp only [beq_no hn1, beq_no hn3, beq_no hn6, beq_no hn8, cond_false]
  refine Gp.val rfl rfl rfl rfl (Val.cast (val_fieldAddr rfl Try.underlying32 rfl Try.ty3 rfl rfl) (v' := ptr b1 2) rfl) ?_
  refine Gp.val rfl rfl rfl rfl (val_load rfl Try.ty3 rfl rfl (cell_rec (k := 0) rfl rfl)) ?_
  refine Gp.val rfl rfl rfl rfl (Val.cast (val_fieldAddr rfl Try.underlying32 rfl Try.ty3 rfl rfl) (v' := ptr b1 1) rfl) ?_
  refine Gp.val rfl rfl rfl rfl (val_load rfl Try.ty3 rfl rfl (cell_rec (k := 0) rfl rfl)) ?_
  refine Gp.val rfl rfl rfl rfl (val_build rfl (qs := [(0, .int .i64 ((j.val : Nat) : Int)), (1, .int .i64 ((i.val : Nat) : Int))]) rfl rfl (fun w => by go_simp) (v := .agg #[.int .i64 ((j.val : Nat) : Int), .int .i64 ((i.val : Nat) : Int)])) ?_
  refine Gp.val rfl rfl rfl rfl (Val.cast (val_fieldAddr rfl Try.underlying32 rfl Try.ty3 rfl rfl) (v' := ptr b1 1) rfl) ?_
  refine Gp.val rfl rfl rfl rfl (val_load rfl Try.ty3 rfl rfl (cell_rec (k := 0) rfl rfl)) ?_
  refine Gp.val rfl rfl rfl rfl (Val.cast (val_fieldAddr rfl Try.underlying32 rfl Try.ty3 rfl rfl) (v' := ptr b1 2) rfl) ?_
  refine Gp.val rfl rfl rfl rfl (val_load rfl Try.ty3 rfl rfl (cell_rec (k := 0) rfl rfl)) ?_
  refine Gp.val rfl rfl rfl rfl (val_build rfl (qs := [(0, .int .i64 ((i.val : Nat) : Int)), (1, .int .i64 ((j.val : Nat) : Int))]) rfl rfl (fun w => by go_simp) (v := .agg #[.int .i64 ((i.val : Nat) : Int), .int .i64 ((j.val : Nat) : Int)])) ?_
  refine Gp.done (uniq_of (by kernel_rfl)) (by rfl) (by kernel_rfl) ⟨⟨_, rfl, ?_⟩, ⟨_, rfl, ?_⟩, ⟨_, rfl, ?_⟩, ⟨_, rfl, ?_⟩, trivial⟩ ?_
  · intro d hc hdi hpre a w hf H
    change Sat _ _ (sep [Hp.rec_ b1 [.int .i64 4, .int .i64 ((i.val : Nat) : Int), .int .i64 ((j.val : Nat) : Int)], Hp.rec_ S [pv, .map (some mc), .map (some ma), .bool dn_], Hp.own FP 4 pv ps, Hp.map Try.prog 45 pairL vN mc ca, Hp.map Try.prog 45 pairL vN ma an, R, pp2x6 d, pp2x7 d, pp2x8 d, pp2x9 d]) at H
    have q10 := hdi
    have q12 : dn d 12 = false := hc.not 12 10 rfl (by kernel_rfl) q10
    have q13 : dn d 13 = false := hc.not 13 10 rfl (by kernel_rfl) q10
    have n6 : pp2x6 d = 1 := by rw [pp2x6e]; simp only [q10, q12, cond_true, cond_false]
    have n8 : pp2x8 d = 1 := by rw [pp2x8e]; simp only [q10, cond_true, cond_false]
    rw [n6, n8] at H
    refine EffAt.mono (Eff.at_ hf.slots H (eff_alloc rfl Try.ty45 (vs := [.int .i64 0, .int .i64 0]) rfl)) ?_
    rintro _ w2 ⟨_, ⟨b3, rfl, rfl⟩, H2⟩
    have H2 := Sat.fillAt H2 (k := 6) rfl
    have H2 := (Sat.pureI (p := ptr b3 0 = ptr b3 0) rfl H2).fillAt (k := 8) rfl
    obtain ⟨d2, hd2⟩ : ∃ d2, d2 = upd d 10 (ptr b3 0) := ⟨_, rfl⟩
    have m10 : dn d2 10 = true := by rw [hd2]; rfl
    have m12 : dn d2 12 = false := by rw [hd2]; exact q12
    have m13 : dn d2 13 = false := by rw [hd2]; exact q13
    rw [← hd2]
    change Sat _ _ (sep [Hp.rec_ b1 [.int .i64 4, .int .i64 ((i.val : Nat) : Int), .int .i64 ((j.val : Nat) : Int)], Hp.rec_ S [pv, .map (some mc), .map (some ma), .bool dn_], Hp.own FP 4 pv ps, Hp.map Try.prog 45 pairL vN mc ca, Hp.map Try.prog 45 pairL vN ma an, R, pp2x6 d2, pp2x7 d2, pp2x8 d2, pp2x9 d2])
    have u6 := congrFun pp2x6e d2
    simp only [m10, m12, cond_true, cond_false] at u6
    have u7 : pp2x7 d2 = pp2x7 d := by rw [hd2, pp2x7e]; rfl
    have u8 := congrFun pp2x8e d2
    simp only [m10, cond_true, cond_false] at u8
    have u9 : pp2x9 d2 = pp2x9 d := by rw [hd2, pp2x9e]; rfl
    rw [u6, u7, u8, u9]
    subst hd2
    exact H2
  · intro d hc hdi hpre a w hf H
    change Sat _ _ (sep [Hp.rec_ b1 [.int .i64 4, .int .i64 ((i.val : Nat) : Int), .int .i64 ((j.val : Nat) : Int)], Hp.rec_ S [pv, .map (some mc), .map (some ma), .bool dn_], Hp.own FP 4 pv ps, Hp.map Try.prog 45 pairL vN mc ca, Hp.map Try.prog 45 pairL vN ma an, R, pp2x6 d, pp2x7 d, pp2x8 d, pp2x9 d]) at H
    have q11 := hdi
    have q12 : dn d 12 = false := hc.not 12 11 rfl (by kernel_rfl) q11
    have q13 : dn d 13 = false := hc.not 13 11 rfl (by kernel_rfl) q11
    have n7 : pp2x7 d = 1 := by rw [pp2x7e]; simp only [q11, q13, cond_true, cond_false]
    have n9 : pp2x9 d = 1 := by rw [pp2x9e]; simp only [q11, cond_true, cond_false]
    rw [n7, n9] at H
    refine EffAt.mono (Eff.at_ hf.slots H (eff_alloc rfl Try.ty45 (vs := [.int .i64 0, .int .i64 0]) rfl)) ?_
    rintro _ w2 ⟨_, ⟨b4, rfl, rfl⟩, H2⟩
    have H2 := Sat.fillAt H2 (k := 7) rfl
    have H2 := (Sat.pureI (p := ptr b4 0 = ptr b4 0) rfl H2).fillAt (k := 9) rfl
    obtain ⟨d2, hd2⟩ : ∃ d2, d2 = upd d 11 (ptr b4 0) := ⟨_, rfl⟩
    have m11 : dn d2 11 = true := by rw [hd2]; rfl
    have m12 : dn d2 12 = false := by rw [hd2]; exact q12
    have m13 : dn d2 13 = false := by rw [hd2]; exact q13
    rw [← hd2]
    change Sat _ _ (sep [Hp.rec_ b1 [.int .i64 4, .int .i64 ((i.val : Nat) : Int), .int .i64 ((j.val : Nat) : Int)], Hp.rec_ S [pv, .map (some mc), .map (some ma), .bool dn_], Hp.own FP 4 pv ps, Hp.map Try.prog 45 pairL vN mc ca, Hp.map Try.prog 45 pairL vN ma an, R, pp2x6 d2, pp2x7 d2, pp2x8 d2, pp2x9 d2])
    have u6 : pp2x6 d2 = pp2x6 d := by rw [hd2, pp2x6e]; rfl
    have u7 := congrFun pp2x7e d2
    simp only [m11, m13, cond_true, cond_false] at u7
    have u8 : pp2x8 d2 = pp2x8 d := by rw [hd2, pp2x8e]; rfl
    have u9 := congrFun pp2x9e d2
    simp only [m11, cond_true, cond_false] at u9
    rw [u6, u7, u8, u9]
    subst hd2
    exact H2
  · intro d hc hdi hpre a w hf H
    change Sat _ _ (sep [Hp.rec_ b1 [.int .i64 4, .int .i64 ((i.val : Nat) : Int), .int .i64 ((j.val : Nat) : Int)], Hp.rec_ S [pv, .map (some mc), .map (some ma), .bool dn_], Hp.own FP 4 pv ps, Hp.map Try.prog 45 pairL vN mc ca, Hp.map Try.prog 45 pairL vN ma an, R, pp2x6 d, pp2x7 d, pp2x8 d, pp2x9 d]) at H
    have q10 : dn d 10 = true := hpre 10 (by kernel_rfl)
    have q10 : dn d 10 = true := hpre 10 (by kernel_rfl)
    have q11 : dn d 11 = true := hpre 11 (by kernel_rfl)
    have q12 := hdi
    have q13 : dn d 13 = false := hc.not 13 12 rfl (by kernel_rfl) q12
    have e10 : dv d 10 = ptr (pB (dv d 10)) 0 := H.factAt (k := 8) rfl (by rw [pp2x8e]; simp only [q10, cond_true])
    have e11 : dv d 11 = ptr (pB (dv d 11)) 0 := H.factAt (k := 9) rfl (by rw [pp2x9e]; simp only [q11, cond_true])
    have n6 : pp2x6 d = Hp.rec_ (pB (dv d 10)) [.int .i64 0, .int .i64 0] := by rw [pp2x6e]; simp only [q10, q12, cond_true, cond_false]
    have n7 : pp2x7 d = Hp.rec_ (pB (dv d 11)) [.int .i64 0, .int .i64 0] := by rw [pp2x7e]; simp only [q11, q13, cond_true, cond_false]
    rw [n6, n7] at H
    have s10 := hf.add hf.slots 10 rfl (by kernel_rfl) rfl q10 (v := ptr (pB (dv d 10)) 0) e10
    refine EffAt.mono (Eff.at_ s10 H (eff_store rfl Try.ty45 rfl rfl (us := [.int .i64 ((j.val : Nat) : Int), .int .i64 ((i.val : Nat) : Int)]) rfl rfl rfl (k := 6) rfl rfl (vs' := [.int .i64 ((j.val : Nat) : Int), .int .i64 ((i.val : Nat) : Int)]) rfl (l' := [Hp.rec_ b1 [.int .i64 4, .int .i64 ((i.val : Nat) : Int), .int .i64 ((j.val : Nat) : Int)], Hp.rec_ S [pv, .map (some mc), .map (some ma), .bool dn_], Hp.own FP 4 pv ps, Hp.map Try.prog 45 pairL vN mc ca, Hp.map Try.prog 45 pairL vN ma an, R, Hp.rec_ (pB (dv d 10)) [.int .i64 ((j.val : Nat) : Int), .int .i64 ((i.val : Nat) : Int)], Hp.rec_ (pB (dv d 11)) [.int .i64 0, .int .i64 0], pp2x8 d, pp2x9 d]) rfl)) ?_
    rintro v w2 ⟨_, rfl, H2⟩
    obtain ⟨d2, hd2⟩ : ∃ d2, d2 = upd d 12 v := ⟨_, rfl⟩
    have m12 : dn d2 12 = true := by rw [hd2]; rfl
    have m10 : dn d2 10 = true := by rw [hd2]; exact q10
    have m11 : dn d2 11 = true := by rw [hd2]; exact q11
    have m13 : dn d2 13 = false := by rw [hd2]; exact q13
    rw [← hd2]
    change Sat _ _ (sep [Hp.rec_ b1 [.int .i64 4, .int .i64 ((i.val : Nat) : Int), .int .i64 ((j.val : Nat) : Int)], Hp.rec_ S [pv, .map (some mc), .map (some ma), .bool dn_], Hp.own FP 4 pv ps, Hp.map Try.prog 45 pairL vN mc ca, Hp.map Try.prog 45 pairL vN ma an, R, pp2x6 d2, pp2x7 d2, pp2x8 d2, pp2x9 d2])
    have u6 := congrFun pp2x6e d2
    simp only [m10, m12, cond_true, cond_false] at u6
    have u7 := congrFun pp2x7e d2
    simp only [m11, m13, cond_true, cond_false] at u7
    have u8 : pp2x8 d2 = pp2x8 d := by rw [hd2, pp2x8e]; rfl
    have u9 : pp2x9 d2 = pp2x9 d := by rw [hd2, pp2x9e]; rfl
    rw [u6, u7, u8, u9]
    subst hd2
    exact H2
  · intro d hc hdi hpre a w hf H
    change Sat _ _ (sep [Hp.rec_ b1 [.int .i64 4, .int .i64 ((i.val : Nat) : Int), .int .i64 ((j.val : Nat) : Int)], Hp.rec_ S [pv, .map (some mc), .map (some ma), .bool dn_], Hp.own FP 4 pv ps, Hp.map Try.prog 45 pairL vN mc ca, Hp.map Try.prog 45 pairL vN ma an, R, pp2x6 d, pp2x7 d, pp2x8 d, pp2x9 d]) at H
    have q11 : dn d 11 = true := hpre 11 (by kernel_rfl)
    have q12 : dn d 12 = true := hpre 12 (by kernel_rfl)
    have q10 : dn d 10 = true := hpre 10 (by kernel_rfl)
    have q11 : dn d 11 = true := hpre 11 (by kernel_rfl)
    have q12 : dn d 12 = true := hpre 12 (by kernel_rfl)
    have q13 := hdi
    have e11 : dv d 11 = ptr (pB (dv d 11)) 0 := H.factAt (k := 9) rfl (by rw [pp2x9e]; simp only [q11, cond_true])
    have e10 : dv d 10 = ptr (pB (dv d 10)) 0 := H.factAt (k := 8) rfl (by rw [pp2x8e]; simp only [q10, cond_true])
    have n6 : pp2x6 d = Hp.rec_ (pB (dv d 10)) [.int .i64 ((j.val : Nat) : Int), .int .i64 ((i.val : Nat) : Int)] := by rw [pp2x6e]; simp only [q10, q12, cond_true, cond_false]
    have n7 : pp2x7 d = Hp.rec_ (pB (dv d 11)) [.int .i64 0, .int .i64 0] := by rw [pp2x7e]; simp only [q11, q13, cond_true, cond_false]
    rw [n6, n7] at H
    have s11 := hf.add hf.slots 11 rfl (by kernel_rfl) rfl q11 (v := ptr (pB (dv d 11)) 0) e11
    refine EffAt.mono (Eff.at_ s11 H (eff_store rfl Try.ty45 rfl rfl (us := [.int .i64 ((i.val : Nat) : Int), .int .i64 ((j.val : Nat) : Int)]) rfl rfl rfl (k := 7) rfl rfl (vs' := [.int .i64 ((i.val : Nat) : Int), .int .i64 ((j.val : Nat) : Int)]) rfl (l' := [Hp.rec_ b1 [.int .i64 4, .int .i64 ((i.val : Nat) : Int), .int .i64 ((j.val : Nat) : Int)], Hp.rec_ S [pv, .map (some mc), .map (some ma), .bool dn_], Hp.own FP 4 pv ps, Hp.map Try.prog 45 pairL vN mc ca, Hp.map Try.prog 45 pairL vN ma an, R, Hp.rec_ (pB (dv d 10)) [.int .i64 ((j.val : Nat) : Int), .int .i64 ((i.val : Nat) : Int)], Hp.rec_ (pB (dv d 11)) [.int .i64 ((i.val : Nat) : Int), .int .i64 ((j.val : Nat) : Int)], pp2x8 d, pp2x9 d]) rfl)) ?_
    rintro v w2 ⟨_, rfl, H2⟩
    obtain ⟨d2, hd2⟩ : ∃ d2, d2 = upd d 13 v := ⟨_, rfl⟩
    have m13 : dn d2 13 = true := by rw [hd2]; rfl
    have m11 : dn d2 11 = true := by rw [hd2]; exact q11
    have m12 : dn d2 12 = true := by rw [hd2]; exact q12
    have m10 : dn d2 10 = true := by rw [hd2]; exact q10
    rw [← hd2]
    change Sat _ _ (sep [Hp.rec_ b1 [.int .i64 4, .int .i64 ((i.val : Nat) : Int), .int .i64 ((j.val : Nat) : Int)], Hp.rec_ S [pv, .map (some mc), .map (some ma), .bool dn_], Hp.own FP 4 pv ps, Hp.map Try.prog 45 pairL vN mc ca, Hp.map Try.prog 45 pairL vN ma an, R, pp2x6 d2, pp2x7 d2, pp2x8 d2, pp2x9 d2])
    have u6 := congrFun pp2x6e d2
    simp only [m10, m12, cond_true, cond_false] at u6
    have u7 := congrFun pp2x7e d2
    simp only [m11, m13, cond_true, cond_false] at u7
    have u8 : pp2x8 d2 = pp2x8 d := by rw [hd2, pp2x8e]; rfl
    have u9 : pp2x9 d2 = pp2x9 d := by rw [hd2, pp2x9e]; rfl
    rw [u6, u7, u8, u9]
    subst hd2
    exact H2
  · intro d hc hall a hf w H
    change Sat _ _ (sep [Hp.rec_ b1 [.int .i64 4, .int .i64 ((i.val : Nat) : Int), .int .i64 ((j.val : Nat) : Int)], Hp.rec_ S [pv, .map (some mc), .map (some ma), .bool dn_], Hp.own FP 4 pv ps, Hp.map Try.prog 45 pairL vN mc ca, Hp.map Try.prog 45 pairL vN ma an, R, pp2x6 d, pp2x7 d, pp2x8 d, pp2x9 d]) at H
    have q10 : dn d 10 = true := hall 10 rfl
    have q11 : dn d 11 = true := hall 11 rfl
    have q12 : dn d 12 = true := hall 12 rfl
    have q13 : dn d 13 = true := hall 13 rfl
    have e10 : dv d 10 = ptr (pB (dv d 10)) 0 := H.factAt (k := 8) rfl (by rw [pp2x8e]; simp only [q10, cond_true])
    have e11 : dv d 11 = ptr (pB (dv d 11)) 0 := H.factAt (k := 9) rfl (by rw [pp2x9e]; simp only [q11, cond_true])
    have n6 : pp2x6 d = Hp.rec_ (pB (dv d 10)) [.int .i64 ((j.val : Nat) : Int), .int .i64 ((i.val : Nat) : Int)] := by rw [pp2x6e]; simp only [q10, q12, cond_true, cond_false]
    have n7 : pp2x7 d = Hp.rec_ (pB (dv d 11)) [.int .i64 ((i.val : Nat) : Int), .int .i64 ((j.val : Nat) : Int)] := by rw [pp2x7e]; simp only [q11, q13, cond_true, cond_false]
    have n8 : pp2x8 d = Hp.pure (dv d 10 = ptr (pB (dv d 10)) 0) := by rw [pp2x8e]; simp only [q10, cond_true]
    have n9 : pp2x9 d = Hp.pure (dv d 11 = ptr (pB (dv d 11)) 0) := by rw [pp2x9e]; simp only [q11, cond_true]
    rw [n6, n7, n8, n9] at H
    clear n6 n7 n8 n9
    obtain ⟨z5, hz5⟩ : ∃ b, b = pB (dv d 10) := ⟨_, rfl⟩
    rw [← hz5] at e10 H
    have s10 := hf.add hf.slots 10 rfl rfl rfl q10 (v := ptr z5 0) e10
    obtain ⟨z6, hz6⟩ : ∃ b, b = pB (dv d 11) := ⟨_, rfl⟩
    rw [← hz6] at e11 H
    have s11 := hf.add s10 11 rfl rfl rfl q11 (v := ptr z6 0) e11
    refine Gx.use s11 H ?_
    refine Gx.drop 9 rfl ?_
    refine Gx.drop 8 rfl ?_
    refine Gx.norm (l' := [Hp.rec_ b1 [.int .i64 4, .int .i64 ((i.val : Nat) : Int), .int .i64 ((j.val : Nat) : Int)], Hp.rec_ S [pv, .map (some mc), .map (some ma), .bool dn_], Hp.own FP 4 pv ps, Hp.map Try.prog 45 pairL vN mc ca, Hp.map Try.prog 45 pairL vN ma an, R, Hp.rec_ z5 [.int .i64 ((j.val : Nat) : Int), .int .i64 ((i.val : Nat) : Int)], Hp.rec_ z6 [.int .i64 ((i.val : Nat) : Int), .int .i64 ((j.val : Nat) : Int)]]) rfl ?_
    refine Gx.thenN ?_
    refine Gx.seq ?_
    refine Gx.seq ?_
    refine Gx.region ?_
    refine Gx.val rfl rfl rfl (Val.cast (val_fieldAddr rfl Try.underlying32 rfl Try.ty3 rfl rfl) (v' := ptr b1 0) rfl) ?_
    refine Gx.val rfl rfl rfl (val_load rfl Try.ty3 rfl rfl (cell_rec (k := 0) rfl rfl)) ?_
    refine Gx.done ?_
    refine Gx.thenN ?_
    refine Gx.block ?_
    refine Gx.seq ?_
    refine Gx.seq ?_
    refine Gx.region ?_
    refine Gx.val rfl rfl rfl (Val.cast (val_eql rfl rfl rfl) (v' := .bool false) rfl) ?_
    refine Gx.val rfl rfl rfl (val_assign rfl rfl) ?_
    refine Gx.done ?_
    refine Gx.thenN ?_
    refine Gx.f rfl ?_
    refine Gx.region ?_
    refine Gx.val rfl rfl rfl (Val.cast (val_eql rfl rfl rfl) (v' := .bool false) rfl) ?_
    refine Gx.val rfl rfl rfl (val_assign rfl rfl) ?_
    refine Gx.done ?_
    refine Gx.thenN ?_
    refine Gx.f rfl ?_
    refine Gx.seq ?_
    refine Gx.region ?_
    refine Gx.val rfl rfl rfl (Val.cast (val_eql rfl rfl rfl) (v' := .bool false) rfl) ?_
    refine Gx.val rfl rfl rfl (val_assign rfl rfl) ?_
    refine Gx.done ?_
    refine Gx.thenN ?_
    refine Gx.f rfl ?_
    refine Gx.seq ?_
    refine Gx.region ?_
    refine Gx.val rfl rfl rfl (Val.cast (val_eql rfl rfl rfl) (v' := .bool true) rfl) ?_
    refine Gx.val rfl rfl rfl (val_assign rfl rfl) ?_
    refine Gx.done ?_
    refine Gx.thenN ?_
    refine Gx.t rfl ?_
    refine Gx.seq ?_
    refine Gx.seq ?_
    refine Gx.regionO (fun j => j == 5) 6 [0, 1, 2, 3, 4, 5] (fun us => match us with | [] => [Hp.rec_ b1 [.int .i64 4, .int .i64 ((i.val : Nat) : Int), .int .i64 ((j.val : Nat) : Int)], Hp.rec_ S [pv, .map (some mc), .map (some ma), .bool dn_], Hp.own FP 4 pv ps, Hp.map Try.prog 45 pairL vN mc ca, Hp.map Try.prog 45 pairL vN ma an, R, Hp.rec_ z5 [.int .i64 ((j.val : Nat) : Int), .int .i64 ((i.val : Nat) : Int)], Hp.rec_ z6 [.int .i64 ((i.val : Nat) : Int), .int .i64 ((j.val : Nat) : Int)]] | u1 :: _ => [Hp.map Try.prog 45 pairL vN ma an, Hp.rec_ b1 [.int .i64 4, .int .i64 ((i.val : Nat) : Int), .int .i64 ((j.val : Nat) : Int)], Hp.rec_ S [pv, .map (some mc), .map (some ma), .bool dn_], Hp.own FP 4 pv ps, Hp.map Try.prog 45 pairL vN mc ca, R, Hp.rec_ z5 [.int .i64 ((j.val : Nat) : Int), .int .i64 ((i.val : Nat) : Int)], Hp.rec_ z6 [.int .i64 ((i.val : Nat) : Int), .int .i64 ((j.val : Nat) : Int)]]) Try.mixed (by kernel_rfl) rfl ?_
    refine Gw.val rfl rfl rfl rfl rfl (fun us => val_move rfl rfl) ?_
    refine Gw.val rfl rfl rfl rfl rfl (fun us => val_nilCheck rfl rfl) ?_
    refine Gw.val rfl rfl rfl rfl rfl (fun us => Val.cast (val_fieldAddr rfl Try.underlying39 rfl Try.ty37 rfl rfl) (v' := ptr S 2) rfl) ?_
    refine Gw.val0 rfl rfl rfl (by kernel_rfl) rfl rfl (val_load rfl Try.ty37 rfl rfl (cell_rec (k := 1) rfl rfl)) ?_
    refine Gw.val0 rfl rfl rfl (by kernel_rfl) rfl rfl (Val.cast (val_loadA rfl Try.ty45 rfl rfl rfl (cells_rec (k := 6) rfl)) (v' := .agg #[.int .i64 ((j.val : Nat) : Int), .int .i64 ((i.val : Nat) : Int)]) rfl) ?_
    refine Gw.chg rfl rfl rfl rfl rfl (fun v => v = .bool false) (eff_call (vs := [.map (some ma), .agg #[.int .i64 ((j.val : Nat) : Int), .int .i64 ((i.val : Nat) : Int)]]) rfl Try.fn13 rfl (fun w H => arrive_no hc_ rm.a (rm.aa _) (H.at_ (k := 4) rfl))) ?_
    rintro _ rfl
    refine Gw.done ?_
    refine Gx.norm (l' := [Hp.map Try.prog 45 pairL vN ma an, Hp.rec_ b1 [.int .i64 4, .int .i64 ((i.val : Nat) : Int), .int .i64 ((j.val : Nat) : Int)], Hp.rec_ S [pv, .map (some mc), .map (some ma), .bool dn_], Hp.own FP 4 pv ps, Hp.map Try.prog 45 pairL vN mc ca, R, Hp.rec_ z5 [.int .i64 ((j.val : Nat) : Int), .int .i64 ((i.val : Nat) : Int)], Hp.rec_ z6 [.int .i64 ((i.val : Nat) : Int), .int .i64 ((j.val : Nat) : Int)]]) rfl ?_
    refine Gx.val rfl rfl rfl (Val.cast (val_not rfl rfl) (v' := .bool true) rfl) ?_
    refine Gx.done ?_
    refine Gx.thenN ?_
    refine Gx.t rfl ?_
    refine Gx.seq ?_
    refine Gx.region ?_
    refine Gx.val rfl rfl rfl (val_assign rfl rfl) ?_
    refine Gx.done ?_
    refine Gx.thenN ?_
    refine Gx.ret ?_
    refine Gx.thenR ?_
    refine Gx.blkR ?_
    refine Gx.thenR ?_
    refine Gx.drop 7 rfl ?_
    refine Gx.drop 6 rfl ?_
    refine Gx.drop 1 rfl ?_
    refine Gx.front 4 rfl ?_
    refine Gx.front 1 rfl ?_
    refine Gx.front 4 rfl ?_
    refine Gx.front 4 rfl ?_
    refine Gx.front 4 rfl ?_
    refine Gx.ret1 Try.results11 rfl ?_
    exact ⟨rfl, sep4 _ _ _ _ _⟩

theorem back_ok {W w : World} {S : Nat} {pv : Value} {mc ma : Nat} {ps : List Pr} {ca an : Cn} {dn_ : Bool} {R : Hp} {i j : Sm} {x : Pr} (hx : ps[i.val]? = some x) (rm : Rooms ca an x) (hc_ : cnt an (j, i) ≠ 0) (H : Sat W w (qAt S pv mc ma ps ca an dn_ R)) :
    Calls Try.prog 11 #[ptr S 0, .agg #[.int .i64 4, .int .i64 ((i.val : Nat) : Int), .int .i64 ((j.val : Nat) : Int)]] w (Ret W fun v l => v = .int .i64 0 ∧ sep l = qAt S pv mc ma (ps.set i.val (⟨x.works, x.bound, x.to, (x.owes - 1)⟩ : Pr)) ca (dec an (j, i)) dn_ R) := by
  refine Gx.enter (l := [Hp.rec_ S [pv, .map (some mc), .map (some ma), .bool dn_], Hp.own FP 4 pv ps, Hp.map Try.prog 45 pairL vN mc ca, Hp.map Try.prog 45 pairL vN ma an, R]) Try.func11 rfl Try.ntmps11 rfl (H.frame4) ?_
  refine Gx.know (m' := [(0, ptr S 0), (1, .agg #[.int .i64 4, .int .i64 ((i.val : Nat) : Int), .int .i64 ((j.val : Nat) : Int)])]) (.cons rfl (.cons rfl .nil)) ?_
  have r1 := rm.c
  have r2 := rm.a
  have r3 := rm.lo
  have r4 := rm.hi
  refine Gx.seq ?_
  refine Gx.region ?_
  refine Gx.eff rfl rfl rfl (eff_box rfl rfl (vs := [.int .i64 4, .int .i64 ((i.val : Nat) : Int), .int .i64 ((j.val : Nat) : Int)]) rfl) ?_
  rintro _ _ ⟨b1, rfl, rfl⟩
  refine Gx.val rfl rfl rfl (val_assign rfl rfl) ?_
  refine Gx.done ?_
  refine Gx.thenN ?_
  refine Gx.seq ?_
  refine Gx.regionQ Try.mixed (by kernel_rfl) ?_
  refine Gq.val rfl rfl rfl (val_move rfl rfl) ?_
  refine Gq.val rfl rfl rfl (val_nilCheck rfl rfl) ?_
  refine Gq.val rfl rfl rfl (Val.cast (val_fieldAddr rfl Try.underlying39 rfl Try.ty36 rfl rfl) (v' := ptr S 0) rfl) ?_
  refine Gq.val rfl rfl rfl (val_load rfl Try.ty36 rfl rfl (cell_rec (k := 1) rfl rfl)) ?_
  refine Gq.val rfl rfl rfl (Val.cast (val_fieldAddr rfl Try.underlying32 rfl Try.ty3 rfl rfl) (v' := ptr b1 1) rfl) ?_
  refine Gq.val rfl rfl rfl (val_load rfl Try.ty3 rfl rfl (cell_rec (k := 0) rfl rfl)) ?_
  refine Gq.val rfl rfl rfl (val_ixa rfl Try.underlying36 Try.ty41 rfl rfl (j := i.val) (rfl) (reach_own (k := 2) rfl hx)) ?_
  refine Gq.val rfl rfl rfl (val_assign rfl rfl) ?_
  refine Gq.done ?_
  refine Gx.thenN ?_
  refine Gx.seq ?_
  -- region 2, in whatever order
  refine Gx.ones 4 (Gx.norm (l' := [Hp.rec_ b1 [.int .i64 4, .int .i64 ((i.val : Nat) : Int), .int .i64 ((j.val : Nat) : Int)], Hp.rec_ S [pv, .map (some mc), .map (some ma), .bool dn_], Hp.own FP 4 pv ps, Hp.map Try.prog 45 pairL vN mc ca, Hp.map Try.prog 45 pairL vN ma an, R, 1, 1, 1, 1]) rfl ?_)
  obtain ⟨pp2x6, pp2x6e⟩ : ∃ p : Done → Hp, p = fun d => cond (dn d 12) (Hp.rec_ (pB (dv d 10)) [.int .i64 ((j.val : Nat) : Int), .int .i64 ((i.val : Nat) : Int)]) (cond (dn d 10) (Hp.rec_ (pB (dv d 10)) [.int .i64 0, .int .i64 0]) (1)) := ⟨_, rfl⟩
  obtain ⟨pp2x7, pp2x7e⟩ : ∃ p : Done → Hp, p = fun d => cond (dn d 13) (Hp.rec_ (pB (dv d 11)) [.int .i64 ((i.val : Nat) : Int), .int .i64 ((j.val : Nat) : Int)]) (cond (dn d 11) (Hp.rec_ (pB (dv d 11)) [.int .i64 0, .int .i64 0]) (1)) := ⟨_, rfl⟩
  obtain ⟨pp2x8, pp2x8e⟩ : ∃ p : Done → Hp, p = fun d => cond (dn d 10) (Hp.pure (dv d 10 = ptr (pB (dv d 10)) 0)) 1 := ⟨_, rfl⟩
  obtain ⟨pp2x9, pp2x9e⟩ : ∃ p : Done → Hp, p = fun d => cond (dn d 11) (Hp.pure (dv d 11 = ptr (pB (dv d 11)) 0)) 1 := ⟨_, rfl⟩
  refine Gx.regionF [10, 11, 12, 13] [0, 1, 2, 3, 4, 5, 6, 7, 8, 9] (fun ιi => cond (Nat.beq ιi 8) [Hp.rec_ b1 [.int .i64 4, .int .i64 ((i.val : Nat) : Int), .int .i64 ((j.val : Nat) : Int)]] (cond (Nat.beq ιi 6) [Hp.rec_ b1 [.int .i64 4, .int .i64 ((i.val : Nat) : Int), .int .i64 ((j.val : Nat) : Int)]] (cond (Nat.beq ιi 3) [Hp.rec_ b1 [.int .i64 4, .int .i64 ((i.val : Nat) : Int), .int .i64 ((j.val : Nat) : Int)]] (cond (Nat.beq ιi 1) [Hp.rec_ b1 [.int .i64 4, .int .i64 ((i.val : Nat) : Int), .int .i64 ((j.val : Nat) : Int)]] ([]))))) (fun d => [Hp.rec_ b1 [.int .i64 4, .int .i64 ((i.val : Nat) : Int), .int .i64 ((j.val : Nat) : Int)], Hp.rec_ S [pv, .map (some mc), .map (some ma), .bool dn_], Hp.own FP 4 pv ps, Hp.map Try.prog 45 pairL vN mc ca, Hp.map Try.prog 45 pairL vN ma an, R, pp2x6 d, pp2x7 d, pp2x8 d, pp2x9 d]) Try.mixed (by kernel_rfl) (by kernel_rfl) (by rw [pp2x6e]; rw [pp2x7e]; rw [pp2x8e]; rw [pp2x9e]; rfl) ?_ ?_
  · intro ιi d w hc hs H
    by_cases hn1 : ιi = 1
    · subst hn1
      exact H.only (k := 0) rfl rfl
    · by_cases hn3 : ιi = 3
      · subst hn3
        exact H.only (k := 0) rfl rfl
      · by_cases hn6 : ιi = 6
        · subst hn6
          exact H.only (k := 0) rfl rfl
        · by_cases hn8 : ιi = 8
          · subst hn8
            exact H.only (k := 0) rfl rfl
          · refine Sat.listed (l := []) H.noneL ?_
            simp only [beq_no hn1, beq_no hn3, beq_no hn6, beq_no hn8, cond_false]
  refine Gp.val rfl rfl rfl rfl (Val.cast (val_fieldAddr rfl Try.underlying32 rfl Try.ty3 rfl rfl) (v' := ptr b1 2) rfl) ?_
  refine Gp.val rfl rfl rfl rfl (val_load rfl Try.ty3 rfl rfl (cell_rec (k := 0) rfl rfl)) ?_
  refine Gp.val rfl rfl rfl rfl (Val.cast (val_fieldAddr rfl Try.underlying32 rfl Try.ty3 rfl rfl) (v' := ptr b1 1) rfl) ?_
  refine Gp.val rfl rfl rfl rfl (val_load rfl Try.ty3 rfl rfl (cell_rec (k := 0) rfl rfl)) ?_
  refine Gp.val rfl rfl rfl rfl (val_build rfl (qs := [(0, .int .i64 ((j.val : Nat) : Int)), (1, .int .i64 ((i.val : Nat) : Int))]) rfl rfl (fun w => by go_simp) (v := .agg #[.int .i64 ((j.val : Nat) : Int), .int .i64 ((i.val : Nat) : Int)])) ?_
  refine Gp.val rfl rfl rfl rfl (Val.cast (val_fieldAddr rfl Try.underlying32 rfl Try.ty3 rfl rfl) (v' := ptr b1 1) rfl) ?_
  refine Gp.val rfl rfl rfl rfl (val_load rfl Try.ty3 rfl rfl (cell_rec (k := 0) rfl rfl)) ?_
  refine Gp.val rfl rfl rfl rfl (Val.cast (val_fieldAddr rfl Try.underlying32 rfl Try.ty3 rfl rfl) (v' := ptr b1 2) rfl) ?_
  refine Gp.val rfl rfl rfl rfl (val_load rfl Try.ty3 rfl rfl (cell_rec (k := 0) rfl rfl)) ?_
  refine Gp.val rfl rfl rfl rfl (val_build rfl (qs := [(0, .int .i64 ((i.val : Nat) : Int)), (1, .int .i64 ((j.val : Nat) : Int))]) rfl rfl (fun w => by go_simp) (v := .agg #[.int .i64 ((i.val : Nat) : Int), .int .i64 ((j.val : Nat) : Int)])) ?_
  refine Gp.done (uniq_of (by kernel_rfl)) (by rfl) (by kernel_rfl) ⟨⟨_, rfl, ?_⟩, ⟨_, rfl, ?_⟩, ⟨_, rfl, ?_⟩, ⟨_, rfl, ?_⟩, trivial⟩ ?_
  · intro d hc hdi hpre a w hf H
    change Sat _ _ (sep [Hp.rec_ b1 [.int .i64 4, .int .i64 ((i.val : Nat) : Int), .int .i64 ((j.val : Nat) : Int)], Hp.rec_ S [pv, .map (some mc), .map (some ma), .bool dn_], Hp.own FP 4 pv ps, Hp.map Try.prog 45 pairL vN mc ca, Hp.map Try.prog 45 pairL vN ma an, R, pp2x6 d, pp2x7 d, pp2x8 d, pp2x9 d]) at H
    have q10 := hdi
    have q12 : dn d 12 = false := hc.not 12 10 rfl (by kernel_rfl) q10
    have q13 : dn d 13 = false := hc.not 13 10 rfl (by kernel_rfl) q10
    have n6 : pp2x6 d = 1 := by rw [pp2x6e]; simp only [q10, q12, cond_true, cond_false]
    have n8 : pp2x8 d = 1 := by rw [pp2x8e]; simp only [q10, cond_true, cond_false]
    rw [n6, n8] at H
    refine EffAt.mono (Eff.at_ hf.slots H (eff_alloc rfl Try.ty45 (vs := [.int .i64 0, .int .i64 0]) rfl)) ?_
    rintro _ w2 ⟨_, ⟨b3, rfl, rfl⟩, H2⟩
    have H2 := Sat.fillAt H2 (k := 6) rfl
    have H2 := (Sat.pureI (p := ptr b3 0 = ptr b3 0) rfl H2).fillAt (k := 8) rfl
    obtain ⟨d2, hd2⟩ : ∃ d2, d2 = upd d 10 (ptr b3 0) := ⟨_, rfl⟩
    have m10 : dn d2 10 = true := by rw [hd2]; rfl
    have m12 : dn d2 12 = false := by rw [hd2]; exact q12
    have m13 : dn d2 13 = false := by rw [hd2]; exact q13
    rw [← hd2]
    change Sat _ _ (sep [Hp.rec_ b1 [.int .i64 4, .int .i64 ((i.val : Nat) : Int), .int .i64 ((j.val : Nat) : Int)], Hp.rec_ S [pv, .map (some mc), .map (some ma), .bool dn_], Hp.own FP 4 pv ps, Hp.map Try.prog 45 pairL vN mc ca, Hp.map Try.prog 45 pairL vN ma an, R, pp2x6 d2, pp2x7 d2, pp2x8 d2, pp2x9 d2])
    have u6 := congrFun pp2x6e d2
    simp only [m10, m12, cond_true, cond_false] at u6
    have u7 : pp2x7 d2 = pp2x7 d := by rw [hd2, pp2x7e]; rfl
    have u8 := congrFun pp2x8e d2
    simp only [m10, cond_true, cond_false] at u8
    have u9 : pp2x9 d2 = pp2x9 d := by rw [hd2, pp2x9e]; rfl
    rw [u6, u7, u8, u9]
    subst hd2
    exact H2
  · intro d hc hdi hpre a w hf H
    change Sat _ _ (sep [Hp.rec_ b1 [.int .i64 4, .int .i64 ((i.val : Nat) : Int), .int .i64 ((j.val : Nat) : Int)], Hp.rec_ S [pv, .map (some mc), .map (some ma), .bool dn_], Hp.own FP 4 pv ps, Hp.map Try.prog 45 pairL vN mc ca, Hp.map Try.prog 45 pairL vN ma an, R, pp2x6 d, pp2x7 d, pp2x8 d, pp2x9 d]) at H
    have q11 := hdi
    have q12 : dn d 12 = false := hc.not 12 11 rfl (by kernel_rfl) q11
    have q13 : dn d 13 = false := hc.not 13 11 rfl (by kernel_rfl) q11
    have n7 : pp2x7 d = 1 := by rw [pp2x7e]; simp only [q11, q13, cond_true, cond_false]
    have n9 : pp2x9 d = 1 := by rw [pp2x9e]; simp only [q11, cond_true, cond_false]
    rw [n7, n9] at H
    refine EffAt.mono (Eff.at_ hf.slots H (eff_alloc rfl Try.ty45 (vs := [.int .i64 0, .int .i64 0]) rfl)) ?_
    rintro _ w2 ⟨_, ⟨b4, rfl, rfl⟩, H2⟩
    have H2 := Sat.fillAt H2 (k := 7) rfl
    have H2 := (Sat.pureI (p := ptr b4 0 = ptr b4 0) rfl H2).fillAt (k := 9) rfl
    obtain ⟨d2, hd2⟩ : ∃ d2, d2 = upd d 11 (ptr b4 0) := ⟨_, rfl⟩
    have m11 : dn d2 11 = true := by rw [hd2]; rfl
    have m12 : dn d2 12 = false := by rw [hd2]; exact q12
    have m13 : dn d2 13 = false := by rw [hd2]; exact q13
    rw [← hd2]
    change Sat _ _ (sep [Hp.rec_ b1 [.int .i64 4, .int .i64 ((i.val : Nat) : Int), .int .i64 ((j.val : Nat) : Int)], Hp.rec_ S [pv, .map (some mc), .map (some ma), .bool dn_], Hp.own FP 4 pv ps, Hp.map Try.prog 45 pairL vN mc ca, Hp.map Try.prog 45 pairL vN ma an, R, pp2x6 d2, pp2x7 d2, pp2x8 d2, pp2x9 d2])
    have u6 : pp2x6 d2 = pp2x6 d := by rw [hd2, pp2x6e]; rfl
    have u7 := congrFun pp2x7e d2
    simp only [m11, m13, cond_true, cond_false] at u7
    have u8 : pp2x8 d2 = pp2x8 d := by rw [hd2, pp2x8e]; rfl
    have u9 := congrFun pp2x9e d2
    simp only [m11, cond_true, cond_false] at u9
    rw [u6, u7, u8, u9]
    subst hd2
    exact H2
  · intro d hc hdi hpre a w hf H
    change Sat _ _ (sep [Hp.rec_ b1 [.int .i64 4, .int .i64 ((i.val : Nat) : Int), .int .i64 ((j.val : Nat) : Int)], Hp.rec_ S [pv, .map (some mc), .map (some ma), .bool dn_], Hp.own FP 4 pv ps, Hp.map Try.prog 45 pairL vN mc ca, Hp.map Try.prog 45 pairL vN ma an, R, pp2x6 d, pp2x7 d, pp2x8 d, pp2x9 d]) at H
    have q10 : dn d 10 = true := hpre 10 (by kernel_rfl)
    have q10 : dn d 10 = true := hpre 10 (by kernel_rfl)
    have q11 : dn d 11 = true := hpre 11 (by kernel_rfl)
    have q12 := hdi
    have q13 : dn d 13 = false := hc.not 13 12 rfl (by kernel_rfl) q12
    have e10 : dv d 10 = ptr (pB (dv d 10)) 0 := H.factAt (k := 8) rfl (by rw [pp2x8e]; simp only [q10, cond_true])
    have e11 : dv d 11 = ptr (pB (dv d 11)) 0 := H.factAt (k := 9) rfl (by rw [pp2x9e]; simp only [q11, cond_true])
    have n6 : pp2x6 d = Hp.rec_ (pB (dv d 10)) [.int .i64 0, .int .i64 0] := by rw [pp2x6e]; simp only [q10, q12, cond_true, cond_false]
    have n7 : pp2x7 d = Hp.rec_ (pB (dv d 11)) [.int .i64 0, .int .i64 0] := by rw [pp2x7e]; simp only [q11, q13, cond_true, cond_false]
    rw [n6, n7] at H
    have s10 := hf.add hf.slots 10 rfl (by kernel_rfl) rfl q10 (v := ptr (pB (dv d 10)) 0) e10
    refine EffAt.mono (Eff.at_ s10 H (eff_store rfl Try.ty45 rfl rfl (us := [.int .i64 ((j.val : Nat) : Int), .int .i64 ((i.val : Nat) : Int)]) rfl rfl rfl (k := 6) rfl rfl (vs' := [.int .i64 ((j.val : Nat) : Int), .int .i64 ((i.val : Nat) : Int)]) rfl (l' := [Hp.rec_ b1 [.int .i64 4, .int .i64 ((i.val : Nat) : Int), .int .i64 ((j.val : Nat) : Int)], Hp.rec_ S [pv, .map (some mc), .map (some ma), .bool dn_], Hp.own FP 4 pv ps, Hp.map Try.prog 45 pairL vN mc ca, Hp.map Try.prog 45 pairL vN ma an, R, Hp.rec_ (pB (dv d 10)) [.int .i64 ((j.val : Nat) : Int), .int .i64 ((i.val : Nat) : Int)], Hp.rec_ (pB (dv d 11)) [.int .i64 0, .int .i64 0], pp2x8 d, pp2x9 d]) rfl)) ?_
    rintro v w2 ⟨_, rfl, H2⟩
    obtain ⟨d2, hd2⟩ : ∃ d2, d2 = upd d 12 v := ⟨_, rfl⟩
    have m12 : dn d2 12 = true := by rw [hd2]; rfl
    have m10 : dn d2 10 = true := by rw [hd2]; exact q10
    have m11 : dn d2 11 = true := by rw [hd2]; exact q11
    have m13 : dn d2 13 = false := by rw [hd2]; exact q13
    rw [← hd2]
    change Sat _ _ (sep [Hp.rec_ b1 [.int .i64 4, .int .i64 ((i.val : Nat) : Int), .int .i64 ((j.val : Nat) : Int)], Hp.rec_ S [pv, .map (some mc), .map (some ma), .bool dn_], Hp.own FP 4 pv ps, Hp.map Try.prog 45 pairL vN mc ca, Hp.map Try.prog 45 pairL vN ma an, R, pp2x6 d2, pp2x7 d2, pp2x8 d2, pp2x9 d2])
    have u6 := congrFun pp2x6e d2
    simp only [m10, m12, cond_true, cond_false] at u6
    have u7 := congrFun pp2x7e d2
    simp only [m11, m13, cond_true, cond_false] at u7
    have u8 : pp2x8 d2 = pp2x8 d := by rw [hd2, pp2x8e]; rfl
    have u9 : pp2x9 d2 = pp2x9 d := by rw [hd2, pp2x9e]; rfl
    rw [u6, u7, u8, u9]
    subst hd2
    exact H2
  · intro d hc hdi hpre a w hf H
    change Sat _ _ (sep [Hp.rec_ b1 [.int .i64 4, .int .i64 ((i.val : Nat) : Int), .int .i64 ((j.val : Nat) : Int)], Hp.rec_ S [pv, .map (some mc), .map (some ma), .bool dn_], Hp.own FP 4 pv ps, Hp.map Try.prog 45 pairL vN mc ca, Hp.map Try.prog 45 pairL vN ma an, R, pp2x6 d, pp2x7 d, pp2x8 d, pp2x9 d]) at H
    have q11 : dn d 11 = true := hpre 11 (by kernel_rfl)
    have q12 : dn d 12 = true := hpre 12 (by kernel_rfl)
    have q10 : dn d 10 = true := hpre 10 (by kernel_rfl)
    have q11 : dn d 11 = true := hpre 11 (by kernel_rfl)
    have q12 : dn d 12 = true := hpre 12 (by kernel_rfl)
    have q13 := hdi
    have e11 : dv d 11 = ptr (pB (dv d 11)) 0 := H.factAt (k := 9) rfl (by rw [pp2x9e]; simp only [q11, cond_true])
    have e10 : dv d 10 = ptr (pB (dv d 10)) 0 := H.factAt (k := 8) rfl (by rw [pp2x8e]; simp only [q10, cond_true])
    have n6 : pp2x6 d = Hp.rec_ (pB (dv d 10)) [.int .i64 ((j.val : Nat) : Int), .int .i64 ((i.val : Nat) : Int)] := by rw [pp2x6e]; simp only [q10, q12, cond_true, cond_false]
    have n7 : pp2x7 d = Hp.rec_ (pB (dv d 11)) [.int .i64 0, .int .i64 0] := by rw [pp2x7e]; simp only [q11, q13, cond_true, cond_false]
    rw [n6, n7] at H
    have s11 := hf.add hf.slots 11 rfl (by kernel_rfl) rfl q11 (v := ptr (pB (dv d 11)) 0) e11
    refine EffAt.mono (Eff.at_ s11 H (eff_store rfl Try.ty45 rfl rfl (us := [.int .i64 ((i.val : Nat) : Int), .int .i64 ((j.val : Nat) : Int)]) rfl rfl rfl (k := 7) rfl rfl (vs' := [.int .i64 ((i.val : Nat) : Int), .int .i64 ((j.val : Nat) : Int)]) rfl (l' := [Hp.rec_ b1 [.int .i64 4, .int .i64 ((i.val : Nat) : Int), .int .i64 ((j.val : Nat) : Int)], Hp.rec_ S [pv, .map (some mc), .map (some ma), .bool dn_], Hp.own FP 4 pv ps, Hp.map Try.prog 45 pairL vN mc ca, Hp.map Try.prog 45 pairL vN ma an, R, Hp.rec_ (pB (dv d 10)) [.int .i64 ((j.val : Nat) : Int), .int .i64 ((i.val : Nat) : Int)], Hp.rec_ (pB (dv d 11)) [.int .i64 ((i.val : Nat) : Int), .int .i64 ((j.val : Nat) : Int)], pp2x8 d, pp2x9 d]) rfl)) ?_
    rintro v w2 ⟨_, rfl, H2⟩
    obtain ⟨d2, hd2⟩ : ∃ d2, d2 = upd d 13 v := ⟨_, rfl⟩
    have m13 : dn d2 13 = true := by rw [hd2]; rfl
    have m11 : dn d2 11 = true := by rw [hd2]; exact q11
    have m12 : dn d2 12 = true := by rw [hd2]; exact q12
    have m10 : dn d2 10 = true := by rw [hd2]; exact q10
    rw [← hd2]
    change Sat _ _ (sep [Hp.rec_ b1 [.int .i64 4, .int .i64 ((i.val : Nat) : Int), .int .i64 ((j.val : Nat) : Int)], Hp.rec_ S [pv, .map (some mc), .map (some ma), .bool dn_], Hp.own FP 4 pv ps, Hp.map Try.prog 45 pairL vN mc ca, Hp.map Try.prog 45 pairL vN ma an, R, pp2x6 d2, pp2x7 d2, pp2x8 d2, pp2x9 d2])
    have u6 := congrFun pp2x6e d2
    simp only [m10, m12, cond_true, cond_false] at u6
    have u7 := congrFun pp2x7e d2
    simp only [m11, m13, cond_true, cond_false] at u7
    have u8 : pp2x8 d2 = pp2x8 d := by rw [hd2, pp2x8e]; rfl
    have u9 : pp2x9 d2 = pp2x9 d := by rw [hd2, pp2x9e]; rfl
    rw [u6, u7, u8, u9]
    subst hd2
    exact H2
  · intro d hc hall a hf w H
    change Sat _ _ (sep [Hp.rec_ b1 [.int .i64 4, .int .i64 ((i.val : Nat) : Int), .int .i64 ((j.val : Nat) : Int)], Hp.rec_ S [pv, .map (some mc), .map (some ma), .bool dn_], Hp.own FP 4 pv ps, Hp.map Try.prog 45 pairL vN mc ca, Hp.map Try.prog 45 pairL vN ma an, R, pp2x6 d, pp2x7 d, pp2x8 d, pp2x9 d]) at H
    have q10 : dn d 10 = true := hall 10 rfl
    have q11 : dn d 11 = true := hall 11 rfl
    have q12 : dn d 12 = true := hall 12 rfl
    have q13 : dn d 13 = true := hall 13 rfl
    have e10 : dv d 10 = ptr (pB (dv d 10)) 0 := H.factAt (k := 8) rfl (by rw [pp2x8e]; simp only [q10, cond_true])
    have e11 : dv d 11 = ptr (pB (dv d 11)) 0 := H.factAt (k := 9) rfl (by rw [pp2x9e]; simp only [q11, cond_true])
    have n6 : pp2x6 d = Hp.rec_ (pB (dv d 10)) [.int .i64 ((j.val : Nat) : Int), .int .i64 ((i.val : Nat) : Int)] := by rw [pp2x6e]; simp only [q10, q12, cond_true, cond_false]
    have n7 : pp2x7 d = Hp.rec_ (pB (dv d 11)) [.int .i64 ((i.val : Nat) : Int), .int .i64 ((j.val : Nat) : Int)] := by rw [pp2x7e]; simp only [q11, q13, cond_true, cond_false]
    have n8 : pp2x8 d = Hp.pure (dv d 10 = ptr (pB (dv d 10)) 0) := by rw [pp2x8e]; simp only [q10, cond_true]
    have n9 : pp2x9 d = Hp.pure (dv d 11 = ptr (pB (dv d 11)) 0) := by rw [pp2x9e]; simp only [q11, cond_true]
    rw [n6, n7, n8, n9] at H
    clear n6 n7 n8 n9
    obtain ⟨z5, hz5⟩ : ∃ b, b = pB (dv d 10) := ⟨_, rfl⟩
    rw [← hz5] at e10 H
    have s10 := hf.add hf.slots 10 rfl rfl rfl q10 (v := ptr z5 0) e10
    obtain ⟨z6, hz6⟩ : ∃ b, b = pB (dv d 11) := ⟨_, rfl⟩
    rw [← hz6] at e11 H
    have s11 := hf.add s10 11 rfl rfl rfl q11 (v := ptr z6 0) e11
    refine Gx.use s11 H ?_
    refine Gx.drop 9 rfl ?_
    refine Gx.drop 8 rfl ?_
    refine Gx.norm (l' := [Hp.rec_ b1 [.int .i64 4, .int .i64 ((i.val : Nat) : Int), .int .i64 ((j.val : Nat) : Int)], Hp.rec_ S [pv, .map (some mc), .map (some ma), .bool dn_], Hp.own FP 4 pv ps, Hp.map Try.prog 45 pairL vN mc ca, Hp.map Try.prog 45 pairL vN ma an, R, Hp.rec_ z5 [.int .i64 ((j.val : Nat) : Int), .int .i64 ((i.val : Nat) : Int)], Hp.rec_ z6 [.int .i64 ((i.val : Nat) : Int), .int .i64 ((j.val : Nat) : Int)]]) rfl ?_
    refine Gx.thenN ?_
    refine Gx.seq ?_
    refine Gx.seq ?_
    refine Gx.region ?_
    refine Gx.val rfl rfl rfl (Val.cast (val_fieldAddr rfl Try.underlying32 rfl Try.ty3 rfl rfl) (v' := ptr b1 0) rfl) ?_
    refine Gx.val rfl rfl rfl (val_load rfl Try.ty3 rfl rfl (cell_rec (k := 0) rfl rfl)) ?_
    refine Gx.done ?_
    refine Gx.thenN ?_
    refine Gx.block ?_
    refine Gx.seq ?_
    refine Gx.seq ?_
    refine Gx.region ?_
    refine Gx.val rfl rfl rfl (Val.cast (val_eql rfl rfl rfl) (v' := .bool false) rfl) ?_
    refine Gx.val rfl rfl rfl (val_assign rfl rfl) ?_
    refine Gx.done ?_
    refine Gx.thenN ?_
    refine Gx.f rfl ?_
    refine Gx.region ?_
    refine Gx.val rfl rfl rfl (Val.cast (val_eql rfl rfl rfl) (v' := .bool false) rfl) ?_
    refine Gx.val rfl rfl rfl (val_assign rfl rfl) ?_
    refine Gx.done ?_
    refine Gx.thenN ?_
    refine Gx.f rfl ?_
    refine Gx.seq ?_
    refine Gx.region ?_
    refine Gx.val rfl rfl rfl (Val.cast (val_eql rfl rfl rfl) (v' := .bool false) rfl) ?_
    refine Gx.val rfl rfl rfl (val_assign rfl rfl) ?_
    refine Gx.done ?_
    refine Gx.thenN ?_
    refine Gx.f rfl ?_
    refine Gx.seq ?_
    refine Gx.region ?_
    refine Gx.val rfl rfl rfl (Val.cast (val_eql rfl rfl rfl) (v' := .bool true) rfl) ?_
    refine Gx.val rfl rfl rfl (val_assign rfl rfl) ?_
    refine Gx.done ?_
    refine Gx.thenN ?_
    refine Gx.t rfl ?_
    refine Gx.seq ?_
    refine Gx.seq ?_
    refine Gx.regionO (fun j => j == 5) 6 [0, 1, 2, 3, 4, 5] (fun us => match us with | [] => [Hp.rec_ b1 [.int .i64 4, .int .i64 ((i.val : Nat) : Int), .int .i64 ((j.val : Nat) : Int)], Hp.rec_ S [pv, .map (some mc), .map (some ma), .bool dn_], Hp.own FP 4 pv ps, Hp.map Try.prog 45 pairL vN mc ca, Hp.map Try.prog 45 pairL vN ma an, R, Hp.rec_ z5 [.int .i64 ((j.val : Nat) : Int), .int .i64 ((i.val : Nat) : Int)], Hp.rec_ z6 [.int .i64 ((i.val : Nat) : Int), .int .i64 ((j.val : Nat) : Int)]] | u1 :: _ => [Hp.map Try.prog 45 pairL vN ma (dec an (j, i)), Hp.rec_ b1 [.int .i64 4, .int .i64 ((i.val : Nat) : Int), .int .i64 ((j.val : Nat) : Int)], Hp.rec_ S [pv, .map (some mc), .map (some ma), .bool dn_], Hp.own FP 4 pv ps, Hp.map Try.prog 45 pairL vN mc ca, R, Hp.rec_ z5 [.int .i64 ((j.val : Nat) : Int), .int .i64 ((i.val : Nat) : Int)], Hp.rec_ z6 [.int .i64 ((i.val : Nat) : Int), .int .i64 ((j.val : Nat) : Int)]]) Try.mixed (by kernel_rfl) rfl ?_
    refine Gw.val rfl rfl rfl rfl rfl (fun us => val_move rfl rfl) ?_
    refine Gw.val rfl rfl rfl rfl rfl (fun us => val_nilCheck rfl rfl) ?_
    refine Gw.val rfl rfl rfl rfl rfl (fun us => Val.cast (val_fieldAddr rfl Try.underlying39 rfl Try.ty37 rfl rfl) (v' := ptr S 2) rfl) ?_
    refine Gw.val0 rfl rfl rfl (by kernel_rfl) rfl rfl (val_load rfl Try.ty37 rfl rfl (cell_rec (k := 1) rfl rfl)) ?_
    refine Gw.val0 rfl rfl rfl (by kernel_rfl) rfl rfl (Val.cast (val_loadA rfl Try.ty45 rfl rfl rfl (cells_rec (k := 6) rfl)) (v' := .agg #[.int .i64 ((j.val : Nat) : Int), .int .i64 ((i.val : Nat) : Int)]) rfl) ?_
    refine Gw.chg rfl rfl rfl rfl rfl (fun v => v = .bool true) (eff_call (vs := [.map (some ma), .agg #[.int .i64 ((j.val : Nat) : Int), .int .i64 ((i.val : Nat) : Int)]]) rfl Try.fn13 rfl (fun w H => arrive_yes hc_ rm.a (rm.aa _) (H.at_ (k := 4) rfl))) ?_
    rintro _ rfl
    refine Gw.done ?_
    refine Gx.norm (l' := [Hp.map Try.prog 45 pairL vN ma (dec an (j, i)), Hp.rec_ b1 [.int .i64 4, .int .i64 ((i.val : Nat) : Int), .int .i64 ((j.val : Nat) : Int)], Hp.rec_ S [pv, .map (some mc), .map (some ma), .bool dn_], Hp.own FP 4 pv ps, Hp.map Try.prog 45 pairL vN mc ca, R, Hp.rec_ z5 [.int .i64 ((j.val : Nat) : Int), .int .i64 ((i.val : Nat) : Int)], Hp.rec_ z6 [.int .i64 ((i.val : Nat) : Int), .int .i64 ((j.val : Nat) : Int)]]) rfl ?_
    refine Gx.val rfl rfl rfl (Val.cast (val_not rfl rfl) (v' := .bool false) rfl) ?_
    refine Gx.done ?_
    refine Gx.thenN ?_
    refine Gx.f rfl ?_
    refine Gx.skip ?_
    refine Gx.thenN ?_
    refine Gx.region ?_
    refine Gx.val rfl rfl rfl (val_move rfl rfl) ?_
    refine Gx.val rfl rfl rfl (val_nilCheck rfl rfl) ?_
    refine Gx.val rfl rfl rfl (Val.cast (val_fieldAddr rfl Try.underlying41 rfl Try.ty3 rfl rfl) (v' := ptr (sB pv) (sO pv + i.val * 4 + 3)) rfl) ?_
    refine Gx.val rfl rfl rfl (val_load rfl Try.ty3 rfl rfl (cell_own (i := 3) (k := 3) rfl hx rfl)) ?_
    refine Gx.val rfl rfl rfl (val_sub rfl rfl rfl (r := (x.owes - 1)) (w64 rfl (by omega))) ?_
    refine Gx.val rfl rfl rfl (val_nilCheck rfl rfl) ?_
    refine Gx.val rfl rfl rfl (Val.cast (val_fieldAddr rfl Try.underlying41 rfl Try.ty3 rfl rfl) (v' := ptr (sB pv) (sO pv + i.val * 4 + 3)) rfl) ?_
    refine Gx.eff0 rfl rfl (eff_storeEl (i := 3) (e' := (⟨x.works, x.bound, x.to, (x.owes - 1)⟩ : Pr)) rfl Try.ty3 rfl rfl rfl rfl (k := 3) rfl FP_len hx (by decide) (rfl) (l' := [Hp.map Try.prog 45 pairL vN ma (dec an (j, i)), Hp.rec_ b1 [.int .i64 4, .int .i64 ((i.val : Nat) : Int), .int .i64 ((j.val : Nat) : Int)], Hp.rec_ S [pv, .map (some mc), .map (some ma), .bool dn_], Hp.own FP 4 pv (ps.set i.val (⟨x.works, x.bound, x.to, (x.owes - 1)⟩ : Pr)), Hp.map Try.prog 45 pairL vN mc ca, R, Hp.rec_ z5 [.int .i64 ((j.val : Nat) : Int), .int .i64 ((i.val : Nat) : Int)], Hp.rec_ z6 [.int .i64 ((i.val : Nat) : Int), .int .i64 ((j.val : Nat) : Int)]]) rfl) ?_
    rintro _ _ rfl
    refine Gx.done ?_
    refine Gx.blkN ?_
    refine Gx.thenN ?_
    refine Gx.seq ?_
    refine Gx.region ?_
    refine Gx.val rfl rfl rfl (val_assign rfl rfl) ?_
    refine Gx.done ?_
    refine Gx.thenN ?_
    refine Gx.ret ?_
    refine Gx.drop 7 rfl ?_
    refine Gx.drop 6 rfl ?_
    refine Gx.drop 1 rfl ?_
    refine Gx.front 4 rfl ?_
    refine Gx.front 1 rfl ?_
    refine Gx.front 4 rfl ?_
    refine Gx.front 4 rfl ?_
    refine Gx.front 4 rfl ?_
    refine Gx.ret1 Try.results11 rfl ?_
    exact ⟨rfl, sep4 _ _ _ _ _⟩

theorem settle_a {W w : World} {S : Nat} {pv : Value} {mc ma : Nat} {ps : List Pr} {ca an : Cn} {dn_ : Bool} {R : Hp} {i : Sm} {x : Pr} (hx : ps[i.val]? = some x) (rm : Rooms ca an x) (hbound : x.bound = false) (H : Sat W w (qAt S pv mc ma ps ca an dn_ R)) :
    Calls Try.prog 12 #[ptr S 0, .int .i64 ((i.val : Nat) : Int)] w (Ret W fun v l => v = .tuple #[] ∧ sep l = qAt S pv mc ma ps ca an dn_ R) := by
  refine Gx.enter (l := [Hp.rec_ S [pv, .map (some mc), .map (some ma), .bool dn_], Hp.own FP 4 pv ps, Hp.map Try.prog 45 pairL vN mc ca, Hp.map Try.prog 45 pairL vN ma an, R]) Try.func12 rfl Try.ntmps12 rfl (H.frame4) ?_
  refine Gx.know (m' := [(0, ptr S 0), (1, .int .i64 ((i.val : Nat) : Int))]) (.cons rfl (.cons rfl .nil)) ?_
  have r1 := rm.c
  have r2 := rm.a
  have r3 := rm.lo
  have r4 := rm.hi
  refine Gx.seq ?_
  refine Gx.region ?_
  refine Gx.val rfl rfl rfl (val_move rfl rfl) ?_
  refine Gx.val rfl rfl rfl (val_nilCheck rfl rfl) ?_
  refine Gx.val rfl rfl rfl (Val.cast (val_fieldAddr rfl Try.underlying39 rfl Try.ty36 rfl rfl) (v' := ptr S 0) rfl) ?_
  refine Gx.val rfl rfl rfl (val_load rfl Try.ty36 rfl rfl (cell_rec (k := 0) rfl rfl)) ?_
  refine Gx.val rfl rfl rfl (val_move rfl rfl) ?_
  refine Gx.val rfl rfl rfl (val_ixa rfl Try.underlying36 Try.ty41 rfl rfl (j := i.val) (rfl) (reach_own (k := 1) rfl hx)) ?_
  refine Gx.val rfl rfl rfl (val_assign rfl rfl) ?_
  refine Gx.done ?_
  refine Gx.thenN ?_
  refine Gx.seq ?_
  refine Gx.seq ?_
  refine Gx.region ?_
  refine Gx.val rfl rfl rfl (val_move rfl rfl) ?_
  refine Gx.val rfl rfl rfl (val_nilCheck rfl rfl) ?_
  refine Gx.val rfl rfl rfl (Val.cast (val_fieldAddr rfl Try.underlying41 rfl Try.ty4 rfl rfl) (v' := ptr (sB pv) (sO pv + i.val * 4 + 1)) rfl) ?_
  refine Gx.val rfl rfl rfl (val_load rfl Try.ty4 rfl rfl (cell_own (i := 1) (k := 1) rfl hx rfl)) ?_
  refine Gx.val rfl rfl rfl (val_not rfl rfl) ?_
  refine Gx.val rfl rfl rfl (val_move rfl rfl) ?_
  refine Gx.slot (t := 16) (v := .bool true) (look_boolT rfl (by rw [hbound]; rfl)) ?_
  refine Gx.skipg rfl rfl rfl rfl rfl rfl ?_
  refine Gx.skipg rfl rfl rfl rfl rfl rfl ?_
  refine Gx.skipg rfl rfl rfl rfl rfl rfl ?_
  refine Gx.skipg rfl rfl rfl rfl rfl rfl ?_
  refine Gx.val rfl rfl rfl (val_pickT rfl rfl rfl) ?_
  refine Gx.val rfl rfl rfl (val_move rfl rfl) ?_
  refine Gx.skipg rfl rfl rfl rfl rfl rfl ?_
  refine Gx.skipg rfl rfl rfl rfl rfl rfl ?_
  refine Gx.skipg rfl rfl rfl rfl rfl rfl ?_
  refine Gx.skipg rfl rfl rfl rfl rfl rfl ?_
  refine Gx.skipg rfl rfl rfl rfl rfl rfl ?_
  refine Gx.val rfl rfl rfl (val_pickT rfl rfl rfl) ?_
  refine Gx.done ?_
  refine Gx.thenN ?_
  refine Gx.t rfl ?_
  refine Gx.ret ?_
  refine Gx.thenR ?_
  refine Gx.ret0 Try.results12 ?_
  exact ⟨rfl, sep4 _ _ _ _ _⟩

theorem settle_b {W w : World} {S : Nat} {pv : Value} {mc ma : Nat} {ps : List Pr} {ca an : Cn} {dn_ : Bool} {R : Hp} {i : Sm} {x : Pr} (hx : ps[i.val]? = some x) (rm : Rooms ca an x) (hbound : x.bound = true) (hworks : x.works = true) (H : Sat W w (qAt S pv mc ma ps ca an dn_ R)) :
    Calls Try.prog 12 #[ptr S 0, .int .i64 ((i.val : Nat) : Int)] w (Ret W fun v l => v = .tuple #[] ∧ sep l = qAt S pv mc ma ps ca an dn_ R) := by
  refine Gx.enter (l := [Hp.rec_ S [pv, .map (some mc), .map (some ma), .bool dn_], Hp.own FP 4 pv ps, Hp.map Try.prog 45 pairL vN mc ca, Hp.map Try.prog 45 pairL vN ma an, R]) Try.func12 rfl Try.ntmps12 rfl (H.frame4) ?_
  refine Gx.know (m' := [(0, ptr S 0), (1, .int .i64 ((i.val : Nat) : Int))]) (.cons rfl (.cons rfl .nil)) ?_
  have r1 := rm.c
  have r2 := rm.a
  have r3 := rm.lo
  have r4 := rm.hi
  refine Gx.seq ?_
  refine Gx.region ?_
  refine Gx.val rfl rfl rfl (val_move rfl rfl) ?_
  refine Gx.val rfl rfl rfl (val_nilCheck rfl rfl) ?_
  refine Gx.val rfl rfl rfl (Val.cast (val_fieldAddr rfl Try.underlying39 rfl Try.ty36 rfl rfl) (v' := ptr S 0) rfl) ?_
  refine Gx.val rfl rfl rfl (val_load rfl Try.ty36 rfl rfl (cell_rec (k := 0) rfl rfl)) ?_
  refine Gx.val rfl rfl rfl (val_move rfl rfl) ?_
  refine Gx.val rfl rfl rfl (val_ixa rfl Try.underlying36 Try.ty41 rfl rfl (j := i.val) (rfl) (reach_own (k := 1) rfl hx)) ?_
  refine Gx.val rfl rfl rfl (val_assign rfl rfl) ?_
  refine Gx.done ?_
  refine Gx.thenN ?_
  refine Gx.seq ?_
  refine Gx.seq ?_
  refine Gx.region ?_
  refine Gx.val rfl rfl rfl (val_move rfl rfl) ?_
  refine Gx.val rfl rfl rfl (val_nilCheck rfl rfl) ?_
  refine Gx.val rfl rfl rfl (Val.cast (val_fieldAddr rfl Try.underlying41 rfl Try.ty4 rfl rfl) (v' := ptr (sB pv) (sO pv + i.val * 4 + 1)) rfl) ?_
  refine Gx.val rfl rfl rfl (val_load rfl Try.ty4 rfl rfl (cell_own (i := 1) (k := 1) rfl hx rfl)) ?_
  refine Gx.val rfl rfl rfl (val_not rfl rfl) ?_
  refine Gx.val rfl rfl rfl (val_move rfl rfl) ?_
  refine Gx.slot (t := 16) (v := .bool false) (look_boolF rfl (by rw [hbound]; rfl)) ?_
  refine Gx.valg rfl rfl rfl rfl rfl (val_move rfl rfl) ?_
  refine Gx.valg rfl rfl rfl rfl rfl (val_nilCheck rfl rfl) ?_
  refine Gx.valg rfl rfl rfl rfl rfl (Val.cast (val_fieldAddr rfl Try.underlying41 rfl Try.ty4 rfl rfl) (v' := ptr (sB pv) (sO pv + i.val * 4)) rfl) ?_
  refine Gx.valg rfl rfl rfl rfl rfl (val_load rfl Try.ty4 rfl rfl (cell_own (i := 0) (k := 1) rfl hx rfl)) ?_
  refine Gx.val rfl rfl rfl (val_pickF rfl rfl rfl) ?_
  refine Gx.val rfl rfl rfl (val_move rfl rfl) ?_
  refine Gx.slot (t := 22) (v := .bool true) (look_boolT rfl (hworks)) ?_
  refine Gx.skipg rfl rfl rfl rfl rfl rfl ?_
  refine Gx.skipg rfl rfl rfl rfl rfl rfl ?_
  refine Gx.skipg rfl rfl rfl rfl rfl rfl ?_
  refine Gx.skipg rfl rfl rfl rfl rfl rfl ?_
  refine Gx.skipg rfl rfl rfl rfl rfl rfl ?_
  refine Gx.val rfl rfl rfl (val_pickT rfl rfl rfl) ?_
  refine Gx.done ?_
  refine Gx.thenN ?_
  refine Gx.t rfl ?_
  refine Gx.ret ?_
  refine Gx.thenR ?_
  refine Gx.ret0 Try.results12 ?_
  exact ⟨rfl, sep4 _ _ _ _ _⟩

theorem settle_c {W w : World} {S : Nat} {pv : Value} {mc ma : Nat} {ps : List Pr} {ca an : Cn} {dn_ : Bool} {R : Hp} {i : Sm} {x : Pr} (hx : ps[i.val]? = some x) (rm : Rooms ca an x) (hbound : x.bound = true) (hworks : x.works = false) (ho : 0 < x.owes) (H : Sat W w (qAt S pv mc ma ps ca an dn_ R)) :
    Calls Try.prog 12 #[ptr S 0, .int .i64 ((i.val : Nat) : Int)] w (Ret W fun v l => v = .tuple #[] ∧ sep l = qAt S pv mc ma ps ca an dn_ R) := by
  refine Gx.enter (l := [Hp.rec_ S [pv, .map (some mc), .map (some ma), .bool dn_], Hp.own FP 4 pv ps, Hp.map Try.prog 45 pairL vN mc ca, Hp.map Try.prog 45 pairL vN ma an, R]) Try.func12 rfl Try.ntmps12 rfl (H.frame4) ?_
  refine Gx.know (m' := [(0, ptr S 0), (1, .int .i64 ((i.val : Nat) : Int))]) (.cons rfl (.cons rfl .nil)) ?_
  have r1 := rm.c
  have r2 := rm.a
  have r3 := rm.lo
  have r4 := rm.hi
  refine Gx.seq ?_
  refine Gx.region ?_
  refine Gx.val rfl rfl rfl (val_move rfl rfl) ?_
  refine Gx.val rfl rfl rfl (val_nilCheck rfl rfl) ?_
  refine Gx.val rfl rfl rfl (Val.cast (val_fieldAddr rfl Try.underlying39 rfl Try.ty36 rfl rfl) (v' := ptr S 0) rfl) ?_
  refine Gx.val rfl rfl rfl (val_load rfl Try.ty36 rfl rfl (cell_rec (k := 0) rfl rfl)) ?_
  refine Gx.val rfl rfl rfl (val_move rfl rfl) ?_
  refine Gx.val rfl rfl rfl (val_ixa rfl Try.underlying36 Try.ty41 rfl rfl (j := i.val) (rfl) (reach_own (k := 1) rfl hx)) ?_
  refine Gx.val rfl rfl rfl (val_assign rfl rfl) ?_
  refine Gx.done ?_
  refine Gx.thenN ?_
  refine Gx.seq ?_
  refine Gx.seq ?_
  refine Gx.region ?_
  refine Gx.val rfl rfl rfl (val_move rfl rfl) ?_
  refine Gx.val rfl rfl rfl (val_nilCheck rfl rfl) ?_
  refine Gx.val rfl rfl rfl (Val.cast (val_fieldAddr rfl Try.underlying41 rfl Try.ty4 rfl rfl) (v' := ptr (sB pv) (sO pv + i.val * 4 + 1)) rfl) ?_
  refine Gx.val rfl rfl rfl (val_load rfl Try.ty4 rfl rfl (cell_own (i := 1) (k := 1) rfl hx rfl)) ?_
  refine Gx.val rfl rfl rfl (val_not rfl rfl) ?_
  refine Gx.val rfl rfl rfl (val_move rfl rfl) ?_
  refine Gx.slot (t := 16) (v := .bool false) (look_boolF rfl (by rw [hbound]; rfl)) ?_
  refine Gx.valg rfl rfl rfl rfl rfl (val_move rfl rfl) ?_
  refine Gx.valg rfl rfl rfl rfl rfl (val_nilCheck rfl rfl) ?_
  refine Gx.valg rfl rfl rfl rfl rfl (Val.cast (val_fieldAddr rfl Try.underlying41 rfl Try.ty4 rfl rfl) (v' := ptr (sB pv) (sO pv + i.val * 4)) rfl) ?_
  refine Gx.valg rfl rfl rfl rfl rfl (val_load rfl Try.ty4 rfl rfl (cell_own (i := 0) (k := 1) rfl hx rfl)) ?_
  refine Gx.val rfl rfl rfl (val_pickF rfl rfl rfl) ?_
  refine Gx.val rfl rfl rfl (val_move rfl rfl) ?_
  refine Gx.slot (t := 22) (v := .bool false) (look_boolF rfl (hworks)) ?_
  refine Gx.valg rfl rfl rfl rfl rfl (val_move rfl rfl) ?_
  refine Gx.valg rfl rfl rfl rfl rfl (val_nilCheck rfl rfl) ?_
  refine Gx.valg rfl rfl rfl rfl rfl (Val.cast (val_fieldAddr rfl Try.underlying41 rfl Try.ty3 rfl rfl) (v' := ptr (sB pv) (sO pv + i.val * 4 + 3)) rfl) ?_
  refine Gx.valg rfl rfl rfl rfl rfl (val_load rfl Try.ty3 rfl rfl (cell_own (i := 3) (k := 1) rfl hx rfl)) ?_
  refine Gx.valg rfl rfl rfl rfl rfl (val_gtr rfl rfl rfl) ?_
  refine Gx.val rfl rfl rfl (val_pickF rfl rfl rfl) ?_
  refine Gx.done ?_
  refine Gx.thenN ?_
  refine Gx.decT rfl (by omega) ?_
  refine Gx.ret ?_
  refine Gx.thenR ?_
  refine Gx.ret0 Try.results12 ?_
  exact ⟨rfl, sep4 _ _ _ _ _⟩

theorem settle_d {W w : World} {S : Nat} {pv : Value} {mc ma : Nat} {ps : List Pr} {ca an : Cn} {dn_ : Bool} {R : Hp} {i : Sm} {x : Pr} (hx : ps[i.val]? = some x) (rm : Rooms ca an x) (hbound : x.bound = true) (hworks : x.works = false) (ho : x.owes ≤ 0) (hto : x.to = none) (H : Sat W w (qAt S pv mc ma ps ca an dn_ R)) :
    Calls Try.prog 12 #[ptr S 0, .int .i64 ((i.val : Nat) : Int)] w (Ret W fun v l => v = .tuple #[] ∧ sep l = qAt S pv mc ma (ps.set i.val (⟨x.works, false, x.to, x.owes⟩ : Pr)) ca an true R) := by
  refine Gx.enter (l := [Hp.rec_ S [pv, .map (some mc), .map (some ma), .bool dn_], Hp.own FP 4 pv ps, Hp.map Try.prog 45 pairL vN mc ca, Hp.map Try.prog 45 pairL vN ma an, R]) Try.func12 rfl Try.ntmps12 rfl (H.frame4) ?_
  refine Gx.know (m' := [(0, ptr S 0), (1, .int .i64 ((i.val : Nat) : Int))]) (.cons rfl (.cons rfl .nil)) ?_
  have r1 := rm.c
  have r2 := rm.a
  have r3 := rm.lo
  have r4 := rm.hi
  refine Gx.seq ?_
  refine Gx.region ?_
  refine Gx.val rfl rfl rfl (val_move rfl rfl) ?_
  refine Gx.val rfl rfl rfl (val_nilCheck rfl rfl) ?_
  refine Gx.val rfl rfl rfl (Val.cast (val_fieldAddr rfl Try.underlying39 rfl Try.ty36 rfl rfl) (v' := ptr S 0) rfl) ?_
  refine Gx.val rfl rfl rfl (val_load rfl Try.ty36 rfl rfl (cell_rec (k := 0) rfl rfl)) ?_
  refine Gx.val rfl rfl rfl (val_move rfl rfl) ?_
  refine Gx.val rfl rfl rfl (val_ixa rfl Try.underlying36 Try.ty41 rfl rfl (j := i.val) (rfl) (reach_own (k := 1) rfl hx)) ?_
  refine Gx.val rfl rfl rfl (val_assign rfl rfl) ?_
  refine Gx.done ?_
  refine Gx.thenN ?_
  refine Gx.seq ?_
  refine Gx.seq ?_
  refine Gx.region ?_
  refine Gx.val rfl rfl rfl (val_move rfl rfl) ?_
  refine Gx.val rfl rfl rfl (val_nilCheck rfl rfl) ?_
  refine Gx.val rfl rfl rfl (Val.cast (val_fieldAddr rfl Try.underlying41 rfl Try.ty4 rfl rfl) (v' := ptr (sB pv) (sO pv + i.val * 4 + 1)) rfl) ?_
  refine Gx.val rfl rfl rfl (val_load rfl Try.ty4 rfl rfl (cell_own (i := 1) (k := 1) rfl hx rfl)) ?_
  refine Gx.val rfl rfl rfl (val_not rfl rfl) ?_
  refine Gx.val rfl rfl rfl (val_move rfl rfl) ?_
  refine Gx.slot (t := 16) (v := .bool false) (look_boolF rfl (by rw [hbound]; rfl)) ?_
  refine Gx.valg rfl rfl rfl rfl rfl (val_move rfl rfl) ?_
  refine Gx.valg rfl rfl rfl rfl rfl (val_nilCheck rfl rfl) ?_
  refine Gx.valg rfl rfl rfl rfl rfl (Val.cast (val_fieldAddr rfl Try.underlying41 rfl Try.ty4 rfl rfl) (v' := ptr (sB pv) (sO pv + i.val * 4)) rfl) ?_
  refine Gx.valg rfl rfl rfl rfl rfl (val_load rfl Try.ty4 rfl rfl (cell_own (i := 0) (k := 1) rfl hx rfl)) ?_
  refine Gx.val rfl rfl rfl (val_pickF rfl rfl rfl) ?_
  refine Gx.val rfl rfl rfl (val_move rfl rfl) ?_
  refine Gx.slot (t := 22) (v := .bool false) (look_boolF rfl (hworks)) ?_
  refine Gx.valg rfl rfl rfl rfl rfl (val_move rfl rfl) ?_
  refine Gx.valg rfl rfl rfl rfl rfl (val_nilCheck rfl rfl) ?_
  refine Gx.valg rfl rfl rfl rfl rfl (Val.cast (val_fieldAddr rfl Try.underlying41 rfl Try.ty3 rfl rfl) (v' := ptr (sB pv) (sO pv + i.val * 4 + 3)) rfl) ?_
  refine Gx.valg rfl rfl rfl rfl rfl (val_load rfl Try.ty3 rfl rfl (cell_own (i := 3) (k := 1) rfl hx rfl)) ?_
  refine Gx.valg rfl rfl rfl rfl rfl (val_gtr rfl rfl rfl) ?_
  refine Gx.val rfl rfl rfl (val_pickF rfl rfl rfl) ?_
  refine Gx.done ?_
  refine Gx.thenN ?_
  refine Gx.decF rfl (by omega) ?_
  refine Gx.skip ?_
  refine Gx.thenN ?_
  refine Gx.seq ?_
  refine Gx.region ?_
  refine Gx.val rfl rfl rfl (val_move rfl rfl) ?_
  refine Gx.val rfl rfl rfl (val_nilCheck rfl rfl) ?_
  refine Gx.val rfl rfl rfl (Val.cast (val_fieldAddr rfl Try.underlying41 rfl Try.ty4 rfl rfl) (v' := ptr (sB pv) (sO pv + i.val * 4 + 1)) rfl) ?_
  refine Gx.eff0 rfl rfl (eff_storeEl (i := 1) (e' := (⟨x.works, false, x.to, x.owes⟩ : Pr)) rfl Try.ty4 rfl rfl rfl rfl (k := 1) rfl FP_len hx (by decide) (rfl) (l' := [Hp.rec_ S [pv, .map (some mc), .map (some ma), .bool dn_], Hp.own FP 4 pv (ps.set i.val (⟨x.works, false, x.to, x.owes⟩ : Pr)), Hp.map Try.prog 45 pairL vN mc ca, Hp.map Try.prog 45 pairL vN ma an, R]) rfl) ?_
  rintro _ _ rfl
  refine Gx.done ?_
  refine Gx.thenN ?_
  refine Gx.seq ?_
  refine Gx.seq ?_
  refine Gx.region ?_
  refine Gx.val rfl rfl rfl (val_move rfl rfl) ?_
  refine Gx.val rfl rfl rfl (val_nilCheck rfl rfl) ?_
  refine Gx.val rfl rfl rfl (Val.cast (val_fieldAddr rfl Try.underlying41 rfl Try.ty3 rfl rfl) (v' := ptr (sB pv) (sO pv + i.val * 4 + 2)) rfl) ?_
  refine Gx.val rfl rfl rfl (val_load rfl Try.ty3 rfl rfl (cell_own (i := 2) (k := 1) rfl (List.getElem?_set_self (List.getElem?_eq_some_iff.1 hx).1) rfl)) ?_
  refine Gx.val rfl rfl rfl (val_lss rfl rfl rfl) ?_
  refine Gx.done ?_
  refine Gx.thenN ?_
  refine Gx.decT rfl (by rw [hto]; decide) ?_
  refine Gx.seq ?_
  refine Gx.region ?_
  refine Gx.val rfl rfl rfl (val_move rfl rfl) ?_
  refine Gx.val rfl rfl rfl (val_nilCheck rfl rfl) ?_
  refine Gx.val rfl rfl rfl (Val.cast (val_fieldAddr rfl Try.underlying39 rfl Try.ty4 rfl rfl) (v' := ptr S 3) rfl) ?_
  refine Gx.eff0 rfl rfl (eff_store rfl Try.ty4 rfl rfl (us := [.bool true]) rfl rfl rfl (k := 0) rfl rfl (vs' := [pv, .map (some mc), .map (some ma), .bool true]) rfl (l' := [Hp.rec_ S [pv, .map (some mc), .map (some ma), .bool true], Hp.own FP 4 pv (ps.set i.val (⟨x.works, false, x.to, x.owes⟩ : Pr)), Hp.map Try.prog 45 pairL vN mc ca, Hp.map Try.prog 45 pairL vN ma an, R]) rfl) ?_
  rintro _ _ rfl
  refine Gx.done ?_
  refine Gx.thenN ?_
  refine Gx.ret ?_
  refine Gx.thenR ?_
  refine Gx.ret0 Try.results12 ?_
  exact ⟨rfl, sep4 _ _ _ _ _⟩

theorem settle_e {W w : World} {S : Nat} {pv : Value} {mc ma : Nat} {ps : List Pr} {ca an : Cn} {dn_ : Bool} {R : Hp} {i : Sm} {x : Pr} (hx : ps[i.val]? = some x) (rm : Rooms ca an x) (hbound : x.bound = true) (hworks : x.works = false) (ho : x.owes ≤ 0) {k : Sm} (hto : x.to = some k) (H : Sat W w (qAt S pv mc ma ps ca an dn_ R)) :
    Calls Try.prog 12 #[ptr S 0, .int .i64 ((i.val : Nat) : Int)] w (Ret W fun v l => v = .tuple #[] ∧ sep l = qAt S pv mc ma (ps.set i.val (⟨x.works, false, x.to, x.owes⟩ : Pr)) ca (inc an (i, k)) dn_ R) := by
  refine Gx.enter (l := [Hp.rec_ S [pv, .map (some mc), .map (some ma), .bool dn_], Hp.own FP 4 pv ps, Hp.map Try.prog 45 pairL vN mc ca, Hp.map Try.prog 45 pairL vN ma an, R]) Try.func12 rfl Try.ntmps12 rfl (H.frame4) ?_
  refine Gx.know (m' := [(0, ptr S 0), (1, .int .i64 ((i.val : Nat) : Int))]) (.cons rfl (.cons rfl .nil)) ?_
  have r1 := rm.c
  have r2 := rm.a
  have r3 := rm.lo
  have r4 := rm.hi
  refine Gx.seq ?_
  refine Gx.region ?_
  refine Gx.val rfl rfl rfl (val_move rfl rfl) ?_
  refine Gx.val rfl rfl rfl (val_nilCheck rfl rfl) ?_
  refine Gx.val rfl rfl rfl (Val.cast (val_fieldAddr rfl Try.underlying39 rfl Try.ty36 rfl rfl) (v' := ptr S 0) rfl) ?_
  refine Gx.val rfl rfl rfl (val_load rfl Try.ty36 rfl rfl (cell_rec (k := 0) rfl rfl)) ?_
  refine Gx.val rfl rfl rfl (val_move rfl rfl) ?_
  refine Gx.val rfl rfl rfl (val_ixa rfl Try.underlying36 Try.ty41 rfl rfl (j := i.val) (rfl) (reach_own (k := 1) rfl hx)) ?_
  refine Gx.val rfl rfl rfl (val_assign rfl rfl) ?_
  refine Gx.done ?_
  refine Gx.thenN ?_
  refine Gx.seq ?_
  refine Gx.seq ?_
  refine Gx.region ?_
  refine Gx.val rfl rfl rfl (val_move rfl rfl) ?_
  refine Gx.val rfl rfl rfl (val_nilCheck rfl rfl) ?_
  refine Gx.val rfl rfl rfl (Val.cast (val_fieldAddr rfl Try.underlying41 rfl Try.ty4 rfl rfl) (v' := ptr (sB pv) (sO pv + i.val * 4 + 1)) rfl) ?_
  refine Gx.val rfl rfl rfl (val_load rfl Try.ty4 rfl rfl (cell_own (i := 1) (k := 1) rfl hx rfl)) ?_
  refine Gx.val rfl rfl rfl (val_not rfl rfl) ?_
  refine Gx.val rfl rfl rfl (val_move rfl rfl) ?_
  refine Gx.slot (t := 16) (v := .bool false) (look_boolF rfl (by rw [hbound]; rfl)) ?_
  refine Gx.valg rfl rfl rfl rfl rfl (val_move rfl rfl) ?_
  refine Gx.valg rfl rfl rfl rfl rfl (val_nilCheck rfl rfl) ?_
  refine Gx.valg rfl rfl rfl rfl rfl (Val.cast (val_fieldAddr rfl Try.underlying41 rfl Try.ty4 rfl rfl) (v' := ptr (sB pv) (sO pv + i.val * 4)) rfl) ?_
  refine Gx.valg rfl rfl rfl rfl rfl (val_load rfl Try.ty4 rfl rfl (cell_own (i := 0) (k := 1) rfl hx rfl)) ?_
  refine Gx.val rfl rfl rfl (val_pickF rfl rfl rfl) ?_
  refine Gx.val rfl rfl rfl (val_move rfl rfl) ?_
  refine Gx.slot (t := 22) (v := .bool false) (look_boolF rfl (hworks)) ?_
  refine Gx.valg rfl rfl rfl rfl rfl (val_move rfl rfl) ?_
  refine Gx.valg rfl rfl rfl rfl rfl (val_nilCheck rfl rfl) ?_
  refine Gx.valg rfl rfl rfl rfl rfl (Val.cast (val_fieldAddr rfl Try.underlying41 rfl Try.ty3 rfl rfl) (v' := ptr (sB pv) (sO pv + i.val * 4 + 3)) rfl) ?_
  refine Gx.valg rfl rfl rfl rfl rfl (val_load rfl Try.ty3 rfl rfl (cell_own (i := 3) (k := 1) rfl hx rfl)) ?_
  refine Gx.valg rfl rfl rfl rfl rfl (val_gtr rfl rfl rfl) ?_
  refine Gx.val rfl rfl rfl (val_pickF rfl rfl rfl) ?_
  refine Gx.done ?_
  refine Gx.thenN ?_
  refine Gx.decF rfl (by omega) ?_
  refine Gx.skip ?_
  refine Gx.thenN ?_
  refine Gx.seq ?_
  refine Gx.region ?_
  refine Gx.val rfl rfl rfl (val_move rfl rfl) ?_
  refine Gx.val rfl rfl rfl (val_nilCheck rfl rfl) ?_
  refine Gx.val rfl rfl rfl (Val.cast (val_fieldAddr rfl Try.underlying41 rfl Try.ty4 rfl rfl) (v' := ptr (sB pv) (sO pv + i.val * 4 + 1)) rfl) ?_
  refine Gx.eff0 rfl rfl (eff_storeEl (i := 1) (e' := (⟨x.works, false, x.to, x.owes⟩ : Pr)) rfl Try.ty4 rfl rfl rfl rfl (k := 1) rfl FP_len hx (by decide) (rfl) (l' := [Hp.rec_ S [pv, .map (some mc), .map (some ma), .bool dn_], Hp.own FP 4 pv (ps.set i.val (⟨x.works, false, x.to, x.owes⟩ : Pr)), Hp.map Try.prog 45 pairL vN mc ca, Hp.map Try.prog 45 pairL vN ma an, R]) rfl) ?_
  rintro _ _ rfl
  refine Gx.done ?_
  refine Gx.thenN ?_
  refine Gx.seq ?_
  refine Gx.seq ?_
  refine Gx.region ?_
  refine Gx.val rfl rfl rfl (val_move rfl rfl) ?_
  refine Gx.val rfl rfl rfl (val_nilCheck rfl rfl) ?_
  refine Gx.val rfl rfl rfl (Val.cast (val_fieldAddr rfl Try.underlying41 rfl Try.ty3 rfl rfl) (v' := ptr (sB pv) (sO pv + i.val * 4 + 2)) rfl) ?_
  refine Gx.val rfl rfl rfl (val_load rfl Try.ty3 rfl rfl (cell_own (i := 2) (k := 1) rfl (List.getElem?_set_self (List.getElem?_eq_some_iff.1 hx).1) rfl)) ?_
  refine Gx.val rfl rfl rfl (val_lss rfl rfl rfl) ?_
  refine Gx.done ?_
  refine Gx.thenN ?_
  refine Gx.decF rfl (by rw [hto]; simp [toI]) ?_
  refine Gx.skip ?_
  refine Gx.thenN ?_
  refine Gx.regionO (fun j => j == 12) 14 [0, 1, 2, 3, 4, 5, 6, 7, 8, 9, 10, 11, 12, 13] (fun us => match us with | [] => [Hp.rec_ S [pv, .map (some mc), .map (some ma), .bool dn_], Hp.own FP 4 pv (ps.set i.val (⟨x.works, false, x.to, x.owes⟩ : Pr)), Hp.map Try.prog 45 pairL vN mc ca, Hp.map Try.prog 45 pairL vN ma an, R] | u1 :: _ => [Hp.rec_ S [pv, .map (some mc), .map (some ma), .bool dn_], Hp.own FP 4 pv (ps.set i.val (⟨x.works, false, x.to, x.owes⟩ : Pr)), Hp.map Try.prog 45 pairL vN mc ca, Hp.mapE Try.prog 45 pairL vN pairV ma (putM an (i, k) (cnt an (i, k))) (i, k) (sN u1), R]) Try.mixed (by kernel_rfl) rfl ?_
  refine Gw.val rfl rfl rfl rfl rfl (fun us => val_move rfl rfl) ?_
  refine Gw.val rfl rfl rfl rfl rfl (fun us => val_nilCheck rfl rfl) ?_
  refine Gw.val rfl rfl rfl rfl rfl (fun us => Val.cast (val_fieldAddr rfl Try.underlying39 rfl Try.ty37 rfl rfl) (v' := ptr S 2) rfl) ?_
  refine Gw.val0 rfl rfl rfl (by kernel_rfl) rfl rfl (val_load rfl Try.ty37 rfl rfl (cell_rec (k := 0) rfl rfl)) ?_
  refine Gw.val rfl rfl rfl rfl rfl (fun us => val_move rfl rfl) ?_
  refine Gw.val rfl rfl rfl rfl rfl (fun us => val_move rfl rfl) ?_
  refine Gw.val rfl rfl rfl rfl rfl (fun us => val_nilCheck rfl rfl) ?_
  refine Gw.val rfl rfl rfl rfl rfl (fun us => Val.cast (val_fieldAddr rfl Try.underlying41 rfl Try.ty3 rfl rfl) (v' := ptr (sB pv) (sO pv + i.val * 4 + 2)) rfl) ?_
  refine Gw.val0 rfl rfl rfl (by kernel_rfl) rfl rfl (val_load rfl Try.ty3 rfl rfl (cell_own (i := 2) (k := 1) rfl (List.getElem?_set_self (List.getElem?_eq_some_iff.1 hx).1) rfl)) ?_
  refine Gw.slot (t := 48) (v := .int .i64 ((k.val : Nat) : Int)) (by rw [show look _ 48 = some (.int .i64 (toI x.to)) from rfl, hto]; rfl) ?_
  refine Gw.val rfl rfl rfl rfl rfl (fun us => val_build rfl (qs := [(0, .int .i64 ((i.val : Nat) : Int)), (1, .int .i64 ((k.val : Nat) : Int))]) rfl rfl (fun w => by go_simp) (v := .agg #[.int .i64 ((i.val : Nat) : Int), .int .i64 ((k.val : Nat) : Int)])) ?_
  refine Gw.val rfl rfl rfl rfl rfl (fun us => match us with | [] => val_lookup1 rfl Try.underlying37 Try.kL Try.ty3 rfl rfl (i := (i, k)) (trivial) (k := 3) rfl (r := .int .i64 ((cnt an (i, k) : Nat) : Int)) (getM_vN an (i, k)) | u1 :: _ => val_lookup1E rfl Try.underlying37 Try.kL Try.ty3 rfl rfl (i := (i, k)) (trivial) (k := 3) rfl (r := .int .i64 ((cnt an (i, k) : Nat) : Int)) (getM_vN2 an (i, k))) ?_
  refine Gw.val rfl rfl rfl rfl rfl (fun us => val_add rfl rfl rfl (r := ((cnt an (i, k) + 1 : Nat) : Int)) (w64 (by omega) (by have := rm.aa (i, k); omega))) ?_
  refine Gw.chg rfl rfl rfl rfl rfl (fun v => ∃ s1 : Nat, v = .tuple #[vN (cnt an (i, k)), .int .i64 ((s1 : Nat) : Int)]) (Eff.mono (eff_mapEntry rfl Try.underlying37 Try.ty3 (z0 := 0) rfl Try.kL pairK rfl rfl (i := (i, k)) (trivial) (k := 3) rfl (by unfold maxLen; omega) (r := cnt an (i, k)) (rfl)) (by rintro _ _ ⟨s1, rfl, rfl⟩; exact ⟨⟨s1, rfl⟩, rfl⟩)) ?_
  rintro _ ⟨s1, rfl⟩
  refine Gw.val rfl rfl rfl rfl rfl (fun us => val_extract rfl rfl rfl) ?_
  refine Gw.done ?_
  refine Gx.norm (l' := [Hp.rec_ S [pv, .map (some mc), .map (some ma), .bool dn_], Hp.own FP 4 pv (ps.set i.val (⟨x.works, false, x.to, x.owes⟩ : Pr)), Hp.map Try.prog 45 pairL vN mc ca, Hp.mapE Try.prog 45 pairL vN pairV ma (putM an (i, k) (cnt an (i, k))) (i, k) s1, R]) rfl ?_
  refine Gx.eff0 rfl rfl (eff_entryStore rfl Try.underlying37 Try.kL pairK rfl rfl rfl (i := (i, k)) (r := (cnt an (i, k) + 1)) (trivial) (k := 3) rfl (by rw [putM_length]; unfold maxLen; split <;> omega) (l' := [Hp.rec_ S [pv, .map (some mc), .map (some ma), .bool dn_], Hp.own FP 4 pv (ps.set i.val (⟨x.works, false, x.to, x.owes⟩ : Pr)), Hp.map Try.prog 45 pairL vN mc ca, Hp.map Try.prog 45 pairL vN ma (inc an (i, k)), R]) (by rw [show putM (putM an (i, k) (cnt an (i, k))) (i, k) (cnt an (i, k) + 1) = (inc an (i, k)) from putM_twice ..]; rfl)) ?_
  rintro _ _ rfl
  refine Gx.done ?_
  refine Gx.endN ?_
  refine Gx.ret0 Try.results12 ?_
  exact ⟨rfl, sep4 _ _ _ _ _⟩

end Go.Proofs.Ytgnpngiecnkfiaa
