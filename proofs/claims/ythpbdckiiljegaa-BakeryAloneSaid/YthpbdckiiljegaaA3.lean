/- The bakery's yield. -/
import Derived.Test.YthpbdckiiljegaaA2
import Derived.Test.YthpbdckiiljegaaCMP
namespace Go.Proofs.Ythpbdckiiljegaa
open Go.RowKit
attribute [local go_sem] EffAt EffUpon

def yieldF (q p : Pr) (i : Nat) : Pr := if q.tk ≠ 0 ∧ (q.tk < p.tk ∨ q.tk = p.tk ∧ p.k < i) then p else { p with k := p.k + 1, at_ := 3 }

theorem or_neg (q p : Pr) (i : Nat) : ((if cmpI (q.tk : Int) p.tk = 0 then cmpI (p.k : Int) i else cmpI (q.tk : Int) p.tk) < 0) ↔ (q.tk < p.tk ∨ q.tk = p.tk ∧ p.k < i) := by
  rcases Nat.lt_trichotomy q.tk p.tk with h | h | h
  · have e : cmpI (q.tk : Int) p.tk = -1 := by unfold cmpI; rw [if_pos (by omega)]
    rw [e]; simp; omega
  · have e : cmpI (q.tk : Int) p.tk = 0 := by unfold cmpI; rw [if_neg (by omega), if_neg (by omega)]
    rw [e, if_pos rfl]; unfold cmpI
    by_cases h1 : (p.k : Int) < i
    · rw [if_pos h1]; omega
    · rw [if_neg h1]; split <;> omega
  · have e : cmpI (q.tk : Int) p.tk = 1 := by unfold cmpI; rw [if_neg (by omega), if_pos (by omega)]
    rw [e]; simp; omega

set_option maxHeartbeats 1000000 in
theorem yield_none {S i : Nat} {ps : List Pr} {ins : List Nat} {p q : Pr} {w : World} {F : Nat → Prop} {B : Nat} (h : Shop w F B S ps ins) (hi : ps[i]? = some p) (hq : ps[p.k]? = some q) (hb : ps.length ≤ 4) (hz : q.tk = 0) :
    StepsTo 16 S i w F B (ps.set i { p with k := p.k + 1, at_ := 3 }) ins := by
  obtain ⟨g, o, cap, vi, h⟩ := h
  have hn := (List.getElem?_eq_some_iff.1 hi).1
  have hk2 := (List.getElem?_eq_some_iff.1 hq).1
  obtain ⟨⟨c0, c1, c2, c3, c4⟩, f0, f1, f2, f3, f4⟩ := h.procs.five hi
  obtain ⟨_, _, _, c8, _⟩ := (h.procs.five hq).1
  have r0 := (h.rec_.2 0 _ rfl).1
  have HS := Lib.hid (fun nq => (OwS.drewN (h.spelled hi) nq))
  have H := Lib.hid h
  have i0 : (0 : Int) ≤ (p.k : Int) := by omega
  have i1 : (p.k : Int) < (ps.length : Int) := by omega
  have hd : ((q.tk : Int) != 0) = false := by simp; omega
  have e1 : IntKind.i64.wrap ((p.k : Int) + 1) = ((p.k + 1 : Nat) : Int) := by rw [IntWalk.i64_in _ (by omega)]; omega
  clear h hi hq
  generalize hlen : ps.length = n at *
  go_enter Try.func16, Try.ntmps16
  go_wp2_with fail
  go_quiet (fail)
  go_wp2_with fail
  go_quiet (fail)
  go_wp2_with fail
  go_end0
  refine ⟨⟨_, rfl⟩, Shop.same (ShopAt.write H.out (gset (gset (gdrewN (World.grownBy.refl _ _) _))) ?_ (by simp))⟩
  rw [hlen]
  exact ((HS.out _).put FP_len (by omega) 1 _ { p with k := p.k + 1 } (by decide) rfl).put0 FP_len (by omega) _ { p with k := p.k + 1, at_ := 3 } (by decide) rfl

def orV (q p : Pr) (i : Nat) : Int := if cmpI (q.tk : Int) p.tk = 0 then cmpI (p.k : Int) i else cmpI (q.tk : Int) p.tk

set_option maxHeartbeats 1000000 in
theorem yield_some {S i : Nat} {ps : List Pr} {ins : List Nat} {p q : Pr} {w : World} {F : Nat → Prop} {B : Nat} (h : Shop w F B S ps ins) (hi : ps[i]? = some p) (hq : ps[p.k]? = some q) (hb : ps.length ≤ 4) (hz : q.tk ≠ 0) :
    StepsTo 16 S i w F B (ps.set i (yieldF q p i)) ins := by
  obtain ⟨g, o, cap, vi, h⟩ := h
  have hn := (List.getElem?_eq_some_iff.1 hi).1
  have hk2 := (List.getElem?_eq_some_iff.1 hq).1
  obtain ⟨⟨c0, c1, c2, c3, c4⟩, f0, f1, f2, f3, f4⟩ := h.procs.five hi
  obtain ⟨_, _, _, c8, _⟩ := (h.procs.five hq).1
  have r0 := (h.rec_.2 0 _ rfl).1
  have HS := Lib.hid (fun w1 (hb : Below w.heap.size w w1) => OwS.below (h.spelled hi) hb)
  have hgl := (h.procs.lt g rfl).2
  have H := Lib.hid h
  have i0 : (0 : Int) ≤ (p.k : Int) := by omega
  have i1 : (p.k : Int) < (ps.length : Int) := by omega
  have hd : ((q.tk : Int) != 0) = true := by simp; omega
  have e1 : IntKind.i64.wrap ((p.k : Int) + 1) = ((p.k + 1 : Nat) : Int) := by rw [IntWalk.i64_in _ (by omega)]; omega
  clear h hi hq
  have HV := Lib.hid (show orV q p i = if cmpI (q.tk : Int) p.tk = 0 then cmpI (p.k : Int) i else cmpI (q.tk : Int) p.tk from rfl)
  have hor : decide (orV q p i < 0) = decide (q.tk < p.tk ∨ q.tk = p.tk ∧ p.k < i) := by rw [Bool.eq_iff_iff, decide_eq_true_iff, decide_eq_true_iff]; exact or_neg q p i
  generalize hlen : ps.length = n at *
  have HORT := Lib.hid (fun (W0 : World) (k T : Nat) (hk : W0.heap.size = k) => or_two (cmpI (q.tk : Int) p.tk) (cmpI (p.k : Int) i) k 2 (W0.alloc (.cells #[.int .i64 (cmpI (q.tk : Int) p.tk), .int .i64 (cmpI (p.k : Int) i)] T)) (by rw [World.cell?_alloc_at _ _ _ _ hk.symm]; rfl) (by rw [World.cell?_alloc_at _ _ _ _ hk.symm]; rfl))
  rw [← HV.out] at HORT
  have HCM := Lib.hid compare_any
  generalize hca : cmpI (q.tk : Int) p.tk = ca at *
  generalize hcb : cmpI (p.k : Int) i = cb at *
  generalize orV q p i = ov at *
  have HCA := Lib.hid hca
  have HCB := Lib.hid hcb
  clear hca hcb
  obtain ⟨St, hne', FF, hF, hC⟩ := stable_class w.heap.size w
  have g1 : ∀ s, (FF s).cell? ⟨g, o + i * 5 + 1, none⟩ = some (.int .i64 p.k) := fun s => ((hF s).cell (p := ⟨g, o + i * 5 + 1, none⟩) hgl).trans c1
  have g3 : ∀ s, (FF s).cell? ⟨g, o + i * 5 + 3, none⟩ = some (.int .i64 p.tk) := fun s => ((hF s).cell (p := ⟨g, o + i * 5 + 3, none⟩) hgl).trans c3
  have HC := Lib.hid hC
  have HF := Lib.hid hF
  clear hC hF
  go_enter Try.func16, Try.ntmps16
  go_wp2_with fail
  go_quiet (fail)
  go_wp2_with fail
  clear c0 c2 c3 c4 f0 f2 f3 f4 c8 r0
  refine wp_region_ord (fun _ => false) 15 [0, 1, 2, 3, 4, 5, 6, 7, 8, 9, 10, 11, 12, 13, 14] (fun _ w' => ∃ s, w' = FF s) (by kernel_rfl) (by kernel_rfl) (HC.out _ (Below.drew (below_drewN (Below.refl _ _) _))) ?_
  repeat (refine gWalk_val (fun w' => ∃ s, w' = FF s) rfl rfl rfl rfl (fun _ _ h => h) (fun K hK => ?_); simp only [List.getElem_toArray, List.getElem_cons_zero, List.getElem_cons_succ]; go_big_quiet_op; refine hK _ ?_; clear hK K)
  refine gWalk_call (.int .i64 ca) rfl rfl rfl (by decide +kernel) ?_ ?_
  · rintro _ ⟨s, rfl⟩
    simp only [List.getElem_toArray, List.getElem_cons_zero, List.getElem_cons_succ]
    go_simp
    rw [← HCA.out]
    refine (HCM.out _ _ _).mono ?_
    rintro e w' ⟨rfl, rfl⟩
    exact ⟨_, rfl, rfl, s, rfl⟩
  simp only [List.getElem_toArray, List.getElem_cons_zero, List.getElem_cons_succ, Act.put, List.setIfInBounds_toArray, List.set_cons_succ, List.set_cons_zero]
  repeat (refine gWalk_val (fun w' => ∃ s, w' = FF s) rfl rfl rfl rfl (fun _ _ h => h) (fun K hK => ?_); simp only [List.getElem_toArray, List.getElem_cons_zero, List.getElem_cons_succ]; go_big_quiet_op; refine hK _ ?_; clear hK K)
  refine gWalk_call (.int .i64 cb) rfl rfl rfl (by decide +kernel) ?_ ?_
  · rintro _ ⟨s, rfl⟩
    simp only [List.getElem_toArray, List.getElem_cons_zero, List.getElem_cons_succ]
    go_simp
    rw [← HCB.out]
    refine (HCM.out _ _ _).mono ?_
    rintro e w' ⟨rfl, rfl⟩
    exact ⟨_, rfl, rfl, s, rfl⟩
  simp only [List.getElem_toArray, List.getElem_cons_zero, List.getElem_cons_succ, Act.put, List.setIfInBounds_toArray, List.set_cons_succ, List.set_cons_zero]
  repeat (refine gWalk_val (fun w' => ∃ s, w' = FF s) rfl rfl rfl rfl (fun _ _ h => h) (fun K hK => ?_); simp only [List.getElem_toArray, List.getElem_cons_zero, List.getElem_cons_succ]; go_big_quiet_op; refine hK _ ?_; clear hK K)
  rintro _ ⟨s, rfl⟩
  simp only [List.drop_succ_cons, List.drop_zero]
  have hbF := HF.out s
  have HB1 := Lib.hid ((HF.out s).trans (((Below.refl _ _).alloc (Nat.le_refl _) (.cells #[.int .i64 ca, .int .i64 cb] 3)).mono hbF.size))
  have hgF := Nat.lt_of_lt_of_le hgl hbF.size
  have q1 : ∀ (T : TypeId), ((FF s).alloc (.cells #[.int .i64 ca, .int .i64 cb] T)).cell? ⟨g, o + i * 5 + 1, none⟩ = some (.int .i64 p.k) := fun T => (((Below.refl _ (FF s)).alloc (Nat.le_refl _) (.cells #[.int .i64 ca, .int .i64 cb] T)).cell (p := ⟨g, o + i * 5 + 1, none⟩) hgF).trans (g1 s)
  by_cases hy : q.tk < p.tk ∨ q.tk = p.tk ∧ p.k < i
  · rw [decide_eq_true hy] at hor
    go_wp2_with (go_at_call 19; (with_reducible refine (HORT.out _ _ _ rfl).mono ?_); rintro e w' ⟨rfl, rfl⟩)
    refine bodyPost_ret (results_none rfl _ _ _) rfl ?_
    rw [show yieldF q p i = p by unfold yieldF; rw [if_pos ⟨hz, hy⟩]]
    refine ⟨⟨_, rfl⟩, Shop.same (ShopAt.write H.out (Below.grownBy_none HB1.out _) ?_ (by simp))⟩
    rw [hlen]
    exact HS.out _ HB1.out
  · rw [decide_eq_false hy] at hor
    obtain ⟨⟨b0, b1, _⟩, a0, a1, _⟩ := OwS.five (HS.out _ (HF.out s)) (i := i) (p := p) (by rw [List.getElem?_set_self (by omega)])
    clear q1 g1 g3
    go_wp2_with (go_at_call 19; (with_reducible refine (HORT.out _ _ _ rfl).mono ?_); rintro e w' ⟨rfl, rfl⟩)
    go_end0
    rw [show yieldF q p i = { p with k := p.k + 1, at_ := 3 } by unfold yieldF; rw [if_neg (fun h => hy h.2)]]
    refine ⟨⟨_, rfl⟩, Shop.same (ShopAt.write H.out (grownBy_trans (gset (gset (Below.grownBy_none (HF.out s) _))) (Below.grownBy_none ((Below.refl _ _).alloc (Nat.le_refl _) _) _)) ?_ (by simp))⟩
    rw [hlen]
    exact (((HS.out _ (HF.out s)).put FP_len (by omega) 1 _ { p with k := p.k + 1 } (by decide) rfl).put0 FP_len (by omega) _ { p with k := p.k + 1, at_ := 3 } (by decide) rfl).below ((Below.refl _ _).alloc (Nat.le_refl _) _)

end Go.Proofs.Ythpbdckiiljegaa
