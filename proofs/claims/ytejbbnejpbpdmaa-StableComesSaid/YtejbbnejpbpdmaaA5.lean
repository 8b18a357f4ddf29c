/- The walk of the ring's Move. -/
import Derived.Test.YtejbbnejpbpdmaaA4
import Derived.Deep.RegionHeld
namespace Go.Proofs.Ytejbbnejpbpdmaa
open Go.RowKit
attribute [local go_sem] EffAt EffUpon

def moveCode (k : Int) (xs : List Int) (i : Int) : Int :=
  if checkF k xs = 0 then (if i < 0 ∨ (xs.length : Int) ≤ i then 2 else if freeF xs i.toNat then 0 else 6) else checkF k xs
def moveL (k : Int) (xs : List Int) (i : Int) : List Int := if moveCode k xs i = 0 then xs.set i.toNat (nextF k xs i.toNat) else []

/-- what Move tells -/
def MovePost (k : Int) (xs : List Int) (i : Int) (w : World) (e : Ending) (w' : World) : Prop :=
  ∃ v, e = .returned (.tuple #[v, .int .i64 (moveCode k xs i)]) ∧ Ow (Value.int .i64) w' w.heap.size 3 v (moveL k xs i) ∧ Below w.heap.size w w'

theorem check_ok {k : Int} {xs : List Int} (h : checkF k xs = 0) : 2 ≤ xs.length ∧ xs.length ≤ 6 ∧ 2 ≤ k ∧ k ≤ 1000 ∧ ∀ x ∈ xs, 0 ≤ x ∧ x < k := by
  unfold checkF at h
  split at h
  · omega
  · rename_i hg
    refine ⟨by omega, by omega, by omega, by omega, ?_⟩
    split at h
    · rename_i ho
      intro x hx
      have := List.all_eq_true.1 ho x hx
      simpa using this
    · omega

theorem movePost_none {k : Int} {xs : List Int} {i : Int} {w w1 : World} {c : Int} (hc : moveCode k xs i = c) (h0 : c ≠ 0) (hb : Below w.heap.size w w1) :
    MovePost k xs i w (.returned (.tuple #[.slice none 0 0, .int .i64 c])) w1 :=
  ⟨_, ret_pair rfl hc.symm, by unfold moveL; rw [if_neg (by rw [hc]; exact h0)]; exact Ow.nil _ _ _, hb⟩

set_option maxHeartbeats 1000000 in
theorem move_any (k : Int) (v : Value) (xs : List Int) (i : Int) (w : World) (h : SlI w v xs) :
    Calls Try.prog 10 #[.int .i64 k, v, .int .i64 i] w (MovePost k xs i w) := by
  have h' := h
  obtain ⟨a, cap, rfl, hm, hnn, hc⟩ := h
  have HCH := Lib.hid (check_any k _ xs w h')
  clear hc
  by_cases hz : checkF k xs = 0
  · obtain ⟨q1, q2, q3, q4, q5⟩ := check_ok hz
    rw [hz] at HCH
    by_cases hi : i < 0 ∨ (xs.length : Int) ≤ i
    · have HM := Lib.hid (show moveCode k xs i = 2 by simp only [moveCode, hz, hi, if_true])
      clear hz q5
      rcases hi with hi | hi
      all_goals
        go_enter Try.func10, Try.ntmps10
        go_wp2_with (go_at_call 12; refine HCH.out.mono ?_; rintro e w1 ⟨rfl, hb1⟩)
        all_goals first | (exfalso; omega) | (go_ret2; exact movePost_none HM.out (by decide) hb1)
    · obtain ⟨n, rfl⟩ := Int.eq_ofNat_of_zero_le (show 0 ≤ i by omega)
      have hn : n < xs.length := by omega
      have hmc : moveCode k xs (n : Int) = if freeF xs n then 0 else 6 := by simp only [moveCode, hz, hi, if_true, if_false, Int.toNat_natCast]
      have HZ := Lib.hid hz
      have HQ := Lib.hid q5
      have HCL := Lib.hid (fun w1 (hb : Below w.heap.size w w1) => clone_any _ xs w1 (h'.below hb) (by omega))
      clear hz hi q5 h'
      have l0 : (0 : Int) ≤ (n : Int) := by omega
      have l1 : (n : Int) < (xs.length : Int) := by omega
      go_enter Try.func10, Try.ntmps10
      go_wp2_with (first | (go_at_call 12; refine HCH.out.mono ?_; rintro e w1 ⟨rfl, hb1⟩) | (go_at_call 15; refine (HCL.out _ ‹_›).mono ?_; rintro e w2 ⟨v', rfl, how, hb2⟩; obtain ⟨g, cp, rfl, hg, hgl⟩ := how.form_ne (by omega)))
      all_goals first | (exfalso; omega) | skip
      have hs2 := hb2.size
      have hs1 := hb1.size
      have how2 := how.below ((Below.refl _ _).alloc (Nat.le_refl _) (.cells #[.slice (some ⟨g, 0, none⟩) xs.length cp, .int .i64 k] 35))
      have hbW : Below w1.heap.size w1 (w2.alloc (.cells #[.slice (some ⟨g, 0, none⟩) xs.length cp, .int .i64 k] 35)) := hb2.alloc hs2 _
      have hsz : (w2.alloc (.cells #[.slice (some ⟨g, 0, none⟩) xs.length cp, .int .i64 k] 35)).heap.size = w2.heap.size + 1 := by simp
      have c0 : (w2.alloc (.cells #[.slice (some ⟨g, 0, none⟩) xs.length cp, .int .i64 k] 35)).cell? ⟨w2.heap.size, 0, none⟩ = some (.slice (some ⟨g, 0, none⟩) xs.length cp) := by rw [World.cell?_alloc_at _ _ _ _ rfl]; rfl
      have c1 : (w2.alloc (.cells #[.slice (some ⟨g, 0, none⟩) xs.length cp, .int .i64 k] 35)).cell? ⟨w2.heap.size, 1, none⟩ = some (.int .i64 k) := by rw [World.cell?_alloc_at _ _ _ _ rfl]; rfl
      generalize w2.alloc (.cells #[.slice (some ⟨g, 0, none⟩) xs.length cp, .int .i64 k] 35) = W at *
      have HSL := how2.sl (by omega)
      have HMC := Lib.hid hmc
      have HSZ := Lib.hid hsz
      have HC0 := Lib.hid c0
      have HC1 := Lib.hid c1
      clear hmc hsz c0 c1
      cases hf : freeF xs n
      · have hfr := free_any k _ xs n W HSL hn
        rw [hf] at hfr HMC
        clear hf
        refine hfr.mono ?_
        rintro e w3 ⟨rfl, hb3⟩
        go_wp2_with fail
        go_ret2
        exact movePost_none HMC.out (by decide) ((hb1.trans (hbW.mono hs1)).trans (hb3.mono (by have := hbW.size; omega)))
      · have hfr := free_any k _ xs n W HSL hn
        rw [hf] at hfr HMC
        clear hf
        refine hfr.mono ?_
        rintro e w3 ⟨rfl, hb3⟩
        go_wp2_with fail
        have how3 := how2.below hb3
        have hsW := hbW.size
        have hs3 := hb3.size
        have hw3 : w2.heap.size < w3.heap.size := by have := HSZ.out; omega
        have hgl3 : g < w3.heap.size := by omega
        obtain ⟨x, hx⟩ := get_of_lt hn
        obtain ⟨St, hne, F, hF, hC⟩ := stable_class w3.heap.size w3
        have d0 : ∀ s, (F s).cell? ⟨w2.heap.size, 0, none⟩ = some (.slice (some ⟨g, 0, none⟩) xs.length cp) := fun s => ((hF s).cell (p := ⟨w2.heap.size, 0, none⟩) hw3).trans ((hb3.cell (p := ⟨w2.heap.size, 0, none⟩) (by rw [HSZ.out]; exact Nat.lt_succ_self _)).trans HC0.out)
        have d1 : ∀ s, (F s).cell? ⟨w2.heap.size, 1, none⟩ = some (.int .i64 k) := fun s => ((hF s).cell (p := ⟨w2.heap.size, 1, none⟩) hw3).trans ((hb3.cell (p := ⟨w2.heap.size, 1, none⟩) (by rw [HSZ.out]; exact Nat.lt_succ_self _)).trans HC1.out)
        have d2 : ∀ s, (F s).cell? ⟨g, n, none⟩ = some (.int .i64 x) := fun s => (how3.below (hF s)).cell hx
        have d3 : ∀ s, (F s).frozen? ⟨g, n, none⟩ = false := fun s => (how3.below (hF s)).frozen n
        have HNX := Lib.hid (fun s => next_any k _ xs n (F s) ((how3.below (hF s)).sl (by omega)) hn q3 q4 HQ.out)
        have HC := Lib.hid hC
        have HF := Lib.hid hF
        clear hC hF hx
        refine wp_region_ord (fun _ => false) 7 [0, 1, 2, 3, 4, 5, 6] (fun _ w' => ∃ s, w' = F s) (by kernel_rfl) (by kernel_rfl) (HC.out _ (Below.drew (Below.refl _ _))) ?_
        repeat (refine gWalk_val (fun w' => ∃ s, w' = F s) rfl rfl rfl rfl (fun _ _ h => h) (fun K hK => ?_); simp only [List.getElem_toArray, List.getElem_cons_zero, List.getElem_cons_succ]; go_big_quiet_op; refine hK _ ?_; clear hK K)
        refine gWalk_call (.int .i64 (nextF k xs n)) rfl rfl rfl (by decide +kernel) ?_ ?_
        · rintro _ ⟨s, rfl⟩
          simp only [List.getElem_toArray, List.getElem_cons_zero, List.getElem_cons_succ]
          go_simp
          refine (HNX.out s).mono ?_
          rintro e w' ⟨rfl, hb'⟩
          exact ⟨_, rfl, rfl, HC.out _ ((HF.out s).trans (hb'.mono (HF.out s).size))⟩
        simp only [List.getElem_toArray, List.getElem_cons_zero, List.getElem_cons_succ, Act.put, List.setIfInBounds_toArray, List.set_cons_succ, List.set_cons_zero]
        repeat (refine gWalk_val (fun w' => ∃ s, w' = F s) rfl rfl rfl rfl (fun _ _ h => h) (fun K hK => ?_); simp only [List.getElem_toArray, List.getElem_cons_zero, List.getElem_cons_succ]; go_big_quiet_op; refine hK _ ?_; clear hK K)
        rintro _ ⟨s, rfl⟩
        simp only [List.drop_succ_cons, List.drop_zero]
        have hb := HF.out s
        have d0' : ((F s).setCell ⟨g, n, none⟩ (.int .i64 (nextF k xs n))).cell? ⟨w2.heap.size, 0, none⟩ = some (.slice (some ⟨g, 0, none⟩) xs.length cp) := (World.cell?_setCell_far _ _ _ _ (by show g ≠ w2.heap.size; omega)).trans (d0 s)
        have hst := (how3.below hb).stored n (nextF k xs n)
        have hbl : Below w.heap.size w ((F s).setCell ⟨g, n, none⟩ (.int .i64 (nextF k xs n))) :=
          ((((hb1.trans (hbW.mono hs1)).trans (hb3.mono (by omega))).trans (hb.mono (by omega))).setCell (by show w.heap.size ≤ g; omega) _)
        have HST := Lib.hid hst
        have HBL := Lib.hid hbl
        clear hst hbl hb
        go_wp2
        go_ret2
        refine ⟨_, ret_pair rfl HMC.out.symm, ?_, HBL.out⟩
        have : moveL k xs (n : Int) = xs.set n (nextF k xs n) := by unfold moveL; rw [if_pos (HMC.out.trans (if_pos trivial)), Int.toNat_natCast]
        rw [this]
        exact HST.out.mono hs1
  · have HM := Lib.hid (show moveCode k xs i = checkF k xs by simp only [moveCode, hz, if_false])
    have HZ := Lib.hid hz
    have hbz : (checkF k xs == 0) = false := by simpa using hz
    have hbz' : (checkF k xs != 0) = true := by simpa using hz
    generalize hq : checkF k xs = q at *
    go_enter Try.func10, Try.ntmps10
    go_wp2_with (go_at_call 12; refine HCH.out.mono ?_; rintro e w1 ⟨rfl, hb1⟩)
    go_ret2
    exact movePost_none HM.out HZ.out hb1

end Go.Proofs.Ytejbbnejpbpdmaa
