/- The walk of PaxosGoes. -/
import Derived.Test.YtbakeeempbadcaaA6
import Derived.Test.YtbakeeempbadcaaM3
import Derived.Test.YtbakeeempbadcaaS4
import Derived.Test.YtbakeeempbadcaaS7
namespace Go.Proofs.Ytbakeeempbadcaa
open Go.RowKit
set_option linter.unusedVariables false

theorem Try.eT : Elem Try.prog 22 34 (.agg #[.int .i64 0, .int .i64 0, .int .i64 0, .int .i64 0]) 4 32 := ⟨Try.underlying22, by kernel_rfl, rfl, by decide⟩
theorem FT_len (t : Tr) : (FT t).length = 4 := rfl
theorem FT_one (t : Tr) (u : Value) (h : u ∈ FT t) : u.oneCell' = true := by simp [FT] at h; rcases h with rfl | rfl | rfl | rfl <;> rfl

def topStep (acc : Int) (t : Tr) : Int := if acc ≤ t.ballot ∧ t.ballot < 1000 then t.ballot + 1 else acc
def topOf (l : List Tr) : Int := l.foldl topStep 1
theorem topOf_snoc (l : List Tr) (t : Tr) : topOf (l ++ [t]) = topStep (topOf l) t := by simp [topOf]
theorem topOf_bd (l : List Tr) : 1 ≤ topOf l ∧ topOf l ≤ 1000 := by
  have : ∀ (l : List Tr) (a : Int), 1 ≤ a → a ≤ 1000 → 1 ≤ l.foldl topStep a ∧ l.foldl topStep a ≤ 1000 := by
    intro l
    induction l with
    | nil => intro a h1 h2; exact ⟨h1, h2⟩
    | cons t l ih =>
      intro a h1 h2
      refine ih _ ?_ ?_ <;> (unfold topStep; split <;> omega)
  exact this l 1 (by omega) (by omega)
theorem topOf_above (l : List Tr) : ∀ t ∈ l, t.ballot < 1000 → t.ballot < topOf l := by
  have mono : ∀ (l : List Tr) (a : Int), a ≤ l.foldl topStep a := by
    intro l
    induction l with
    | nil => intro a; exact Int.le_refl _
    | cons t l ih =>
      intro a
      refine Int.le_trans ?_ (ih _)
      unfold topStep; split <;> omega
  have : ∀ (l : List Tr) (a : Int), ∀ t ∈ l, t.ballot < 1000 → t.ballot < l.foldl topStep a := by
    intro l
    induction l with
    | nil => intro a t h; cases h
    | cons u l ih =>
      intro a t h ht
      cases h with
      | head =>
        refine Int.lt_of_lt_of_le ?_ (mono l _)
        unfold topStep; split <;> omega
      | tail _ h => exact ih _ t h ht
  exact this l 1

def allL (n : Nat) (xs : List Tr) (top val : Int) (q i : Nat) : List Tr := xs ++ [⟨1, top, 0, val⟩] ++ (if q = 0 then (List.range i).map (askT top) else (List.range n).map (askT top) ++ (List.range i).map (takeT top))
theorem allL_next (n : Nat) (xs : List Tr) (top val : Int) (q i : Nat) (hq : q ≤ 1) : allL n xs top val q (i + 1) = allL n xs top val q i ++ [⟨(q : Int) + 2, top, i, 0⟩] := by
  unfold allL
  rcases (by omega : q = 0 ∨ q = 1) with rfl | rfl
  · simp only [if_true]; rw [List.range_succ, List.map_append, List.append_assoc, List.append_assoc, List.append_assoc]; rfl
  · simp only [if_neg (show ¬ 1 = 0 by decide)]; rw [List.range_succ, List.map_append]; simp only [List.append_assoc]; rfl
theorem allL_over (n : Nat) (xs : List Tr) (top val : Int) : allL n xs top val 0 n = allL n xs top val 1 0 := by unfold allL; simp
theorem allL_end (n : Nat) (xs : List Tr) (top val : Int) : allL n xs top val 1 n = goesL n xs top val := by unfold allL goesL; simp
theorem allL_len (n : Nat) (xs : List Tr) (top val : Int) (q i : Nat) (hq : q ≤ 1) (hi : i ≤ n) : (allL n xs top val q i).length ≤ xs.length + 2 * n + 1 := by
  unfold allL; split <;> simp <;> omega

theorem chosen_two {n : Nat} {s : St} (I : Inv n s) {a b : Int × Int} (ha : a ∈ s.ch) (hb : b ∈ s.ch) : a.2 = b.2 := by
  have key : ∀ a ∈ s.ch, ∀ b ∈ s.fl, a.1 < b.1 → b.2 = a.2 := fun a ha b hb hlt => by
    obtain ⟨h1, c, h2, h3⟩ := I.ch a ha
    obtain ⟨c', g1, g2, g3⟩ := I.fl a h1
    rw [h2] at g1; cases g1
    obtain ⟨bb, e1, e2, e3⟩ := I.fl b hb
    rw [← e3, ← g3]
    exact I.agree h2 g2 h3 _ _ _ (Nat.le_refl _) hlt e1 e2
  rcases (by omega : a.1 < b.1 ∨ b.1 < a.1 ∨ a.1 = b.1) with h | h | h
  · exact (key a ha b (I.ch b hb).1 h).symm
  · exact key b hb a (I.ch a ha).1 h
  · obtain ⟨c, g1, _, g3⟩ := I.fl a (I.ch a ha).1
    obtain ⟨d, e1, _, e3⟩ := I.fl b (I.ch b hb).1
    rw [← h, g1] at e1; cases e1
    rw [← g3, ← e3]

theorem goesL_wf {n : Nat} {xs : List Tr} {top val : Int} (h1 : 1 ≤ top) (h2 : top ≤ 1000) (h : ∀ t ∈ xs, (Lit.int .i64 t.ballot).wf = true) : ∀ t ∈ goesL n xs top val, (Lit.int .i64 t.ballot).wf = true := by
  have hw : (Lit.int .i64 top).wf = true := wf_i64 (by omega) (by omega)
  intro t ht
  unfold goesL at ht
  simp only [List.mem_append, List.mem_singleton, List.mem_map] at ht
  rcases ht with ((ht | rfl) | ⟨i, _, rfl⟩) | ⟨i, _, rfl⟩
  · exact h t ht
  · exact hw
  · exact hw
  · exact hw

theorem sat_below {W w : World} (h : Below W.heap.size W w) : Sat W w 1 := (Sat.start W).of_below h

set_option maxHeartbeats 8000000 in
set_option maxRecDepth 100000 in
theorem goes_any (n : Int) (v : Value) (xs : List Tr) (val : Int) (W : World) (h : SlS FT 4 W v xs) (hwf : ∀ t ∈ xs, (Lit.int .i64 t.ballot).wf = true) :
    Calls Try.prog 4 #[.int .i64 n, v, .int .i64 val] W fun e w' => e = .returned (.bool true) ∧ Below W.heap.size W w' := by
  obtain ⟨a, cap, rfl, hm⟩ := h.form
  by_cases hb : n < 1 ∨ 5 < n
  · clear h hwf
    go_enter Try.func4, Try.ntmps4
    rcases hb with hb | hb
    · go_wp2_with fail
      go_ret
      exact ⟨rfl, Below.refl _ _⟩
    · have hb' : ¬ n < 1 := by omega
      go_wp2_with fail
      go_ret
      exact ⟨rfl, Below.refl _ _⟩
  · obtain ⟨m, rfl⟩ := Int.eq_ofNat_of_zero_le (show 0 ≤ n by omega)
    have hm1 : (1 : Int) ≤ (m : Int) := by omega
    have hm5 : (m : Int) ≤ 5 := by omega
    clear hb
    by_cases hl : 120 < (xs.length : Int) + 2 * (m : Int) + 1
    · clear h hwf
      go_enter Try.func4, Try.ntmps4
      go_wp2_with fail
      go_ret
      exact ⟨rfl, Below.refl _ _⟩
    · have hl' : (xs.length : Int) + 2 * (m : Int) + 1 ≤ 120 := by omega
      have HX := Lib.hid (fun (w : World) (hb : Below W.heap.size W w) => play_run m _ xs w (h.below hb) (by omega) (by omega) (by omega) hwf)
      have HS := Lib.hid h
      have HWF := Lib.hid hwf
      clear h hwf hl
      go_enter Try.func4, Try.ntmps4
      go_wp2_with fail
      all_goals first | (exfalso; omega) | skip
      go_loopw [7, 36] (fun t i wr => ∃ j : Nat, j ≤ xs.length ∧ i = .int .i64 j ∧ t = .int .i64 (topOf (xs.take j)) ∧ (∀ u ∈ xs.take j, u.ballot ≠ 1000) ∧ Below W.heap.size W wr) (fun _ i _ => xs.length - (intOf i).toNat)
      case atStart => exact ⟨0, Nat.zero_le _, rfl, rfl, fun u hu => by simp at hu, Below.refl _ _⟩
      case round =>
        obtain ⟨j, hj, rfl, rfl, hne, hbw⟩ := hrel
        obtain ⟨tb1, tb2⟩ := topOf_bd (xs.take j)
        by_cases hlt : j < xs.length
        · obtain ⟨t, ht⟩ := get_of_lt hlt
          have htk := take_of ht
          obtain ⟨b0, off, rfl, hb0, hcx⟩ := (HS.out.below hbw).el ht
          have x0 : wr.cell? ⟨b0, off + j * 4, none⟩ = some (.int .i64 t.kind) := hcx 0 _ rfl
          have x1 := hcx 1 _ rfl
          have x2 := hcx 2 _ rfl
          have x3 := hcx 3 _ rfl
          have HN := Lib.hid (show topOf (xs.take (j + 1)) = topStep (topOf (xs.take j)) t by rw [htk, topOf_snoc])
          have HNE := Lib.hid (fun (h : t.ballot ≠ 1000) => show ∀ u ∈ xs.take (j + 1), u.ballot ≠ 1000 from by
            rw [htk]; intro u hu
            rcases List.mem_append.1 hu with hu | hu
            · exact hne u hu
            · simp at hu; subst hu; exact h)
          have HBW := Lib.hid hbw
          have i0 : (0 : Int) ≤ (j : Int) := by omega
          have i1 : (j : Int) < (xs.length : Int) := by omega
          clear hbw ht htk hcx hne
          generalize topOf (xs.take j) = tp at *
          by_cases hk : t.ballot = 1000
          · have hk1 : (t.ballot == 1000) = true := by simpa using hk
            have hk2 : decide (t.ballot < 1000) = false := decide_eq_false (by omega)
            clear hk
            by_cases hg : tp ≤ t.ballot
            all_goals
              go_wp2_with fail
              go_ret
              exact ⟨rfl, HBW.out.alloc HBW.out.size _⟩
          · have hk1 : (t.ballot == 1000) = false := by simpa using hk
            have HK := Lib.hid hk
            clear hk
            by_cases hg : tp ≤ t.ballot
            · by_cases hg2 : t.ballot < 1000
              · go_wp2_with fail
                go_roundw
                case rel => exact ⟨j + 1, by omega, by go_num, by rw [HN.out]; unfold topStep; rw [if_pos ⟨hg, hg2⟩], HNE.out HK.out, HBW.out.alloc HBW.out.size _⟩
                case measure => simp [intOf]; omega
              · have hg3 : (1000 : Int) ≤ t.ballot := by omega
                go_wp2_with fail
                go_roundw
                case rel => exact ⟨j + 1, by omega, by go_num, by rw [HN.out]; unfold topStep; rw [if_neg (fun h => hg2 h.2)], HNE.out HK.out, HBW.out.alloc HBW.out.size _⟩
                case measure => simp [intOf]; omega
            · have hg3 : t.ballot < tp := by omega
              go_wp2_with fail
              go_roundw
              case rel => exact ⟨j + 1, by omega, by go_num, by rw [HN.out]; unfold topStep; rw [if_neg (fun h => hg h.1)], HNE.out HK.out, HBW.out.alloc HBW.out.size _⟩
              case measure => simp [intOf]; omega
        · obtain rfl : j = xs.length := by omega
          rw [List.take_length] at hne tb1 tb2 ⊢
          have hab := topOf_above xs
          have hx' : ∀ t ∈ xs, t.ballot ≤ 1000 → t.ballot < topOf xs := fun t ht hle => hab t ht (by have := hne t ht; omega)
          generalize topOf xs = tp at *
          have HG := Lib.hid (goes (n := m) (val := val) (by omega) tb1 tb2 hx')
          have HSW := Lib.hid (sat_below hbw)
          clear hab hx' hne hbw
          go_wp2_with (first | (at_builtin; refine wpList_copyAll rfl _ _ 22 rfl Try.eT FT FT_len FT_one rfl rfl HSW.out ((HS.out.below HSW.out.below).below (below_alloc _ _)) (by omega) ?_; intro v1 w1 hv1 h1; have H1 := Lib.hid h1; obtain ⟨av, cv, rfl⟩ := hv1; clear h1) | (at_builtin; refine wpList_pushH rfl _ _ 22 rfl Try.eT FT FT_len FT_one ⟨1, tp, 0, val⟩ (w1).heap.size rfl rfl ((H1.out).alloc _ _ _ rfl) (by omega) (by omega) ?_; intro v' w' hs' h'))
          have hA := h'.allocAt (b := w'.heap.size) #[.int .i64 2, .int .i64 3] 3 [.int .i64 2, .int .i64 3] rfl rfl
          obtain ⟨g0, o0, c0, rfl⟩ := hs'
          have HA := Lib.hid (show Sat W (w'.alloc (.cells #[.int .i64 2, .int .i64 3] 3)) (Hp.own FT 4 (.slice (some ⟨g0, o0, none⟩) (xs.length + 1) c0) (allL m xs tp val 0 0) * (Hp.rec_ w'.heap.size [.int .i64 2, .int .i64 3] * 1)) from by
            have := hA.sw
            unfold allL
            simpa using this)
          clear h' hA H1 HSW
          generalize w'.heap.size = K at *
          have HB0 := Lib.hid (show (xs ++ [(⟨1, tp, 0, val⟩ : Tr)]).length = xs.length + 1 by simp)
          go_loopw [10, 66] (fun v q wr => ∃ (q' : Nat), q' ≤ 2 ∧ q = .int .i64 q' ∧ (∃ a n c, v = .slice a n c) ∧ Sat W wr (Hp.own FT 4 v (if q' = 0 then allL m xs tp val 0 0 else allL m xs tp val 1 (if q' = 1 then 0 else m)) * (Hp.rec_ K [.int .i64 2, .int .i64 3] * 1))) (fun _ q _ => 2 - (intOf q).toNat)
          case atStart => exact ⟨0, by omega, rfl, ⟨_, _, _, rfl⟩, HA.out⟩
          case round =>
            obtain ⟨q, hq, rfl, ⟨a0, n0, c1, rfl⟩, hsat⟩ := hrel
            by_cases hq2 : q < 2
            · have hK : wr.cell? ⟨K, q, none⟩ = some (.int .i64 ((q : Int) + 2)) := by
                have := hsat.sw.rec_
                rcases (by omega : q = 0 ∨ q = 1) with rfl | rfl
                · exact (this.2 0 _ rfl).1
                · exact (this.2 1 _ rfl).1
              have hs0 : Sat W wr (Hp.own FT 4 (.slice a0 n0 c1) (allL m xs tp val q 0) * (Hp.rec_ K [.int .i64 2, .int .i64 3] * 1)) := by
                rcases (by omega : q = 0 ∨ q = 1) with rfl | rfl
                · exact hsat
                · exact hsat
              have HS0 := Lib.hid hs0
              have i0 : (0 : Int) ≤ (q : Int) := by omega
              have i1 : (q : Int) < 2 := by omega
              clear hsat hs0
              go_wp2_with fail
              obtain ⟨wo, rfl⟩ : ∃ wo : World, wo = wr := ⟨_, rfl⟩
              go_loopw [10, 13] (fun v i wr => ∃ (i' : Nat), i' ≤ m ∧ i = .int .i64 i' ∧ (∃ a n c, v = .slice a n c) ∧ Sat W wr (Hp.own FT 4 v (allL m xs tp val q i') * (Hp.rec_ K [.int .i64 2, .int .i64 3] * 1))) (fun _ i _ => m - (intOf i).toNat)
              case atStart => exact ⟨0, by omega, rfl, ⟨_, _, _, rfl⟩, HS0.out⟩
              case round =>
                obtain ⟨i, hi, rfl, ⟨a2, n2, c2, rfl⟩, hsat⟩ := hrel
                by_cases hi2 : i < m
                · have hll := allL_len m xs tp val q i (by omega) hi
                  have HNX := Lib.hid (allL_next m xs tp val q i (by omega))
                  have H1 := Lib.hid hsat
                  have j1 : (i : Int) < (m : Int) := by omega
                  clear hsat hK
                  go_wp2_with (at_builtin; refine wpList_pushH rfl _ _ 22 rfl Try.eT FT FT_len FT_one ⟨(q : Int) + 2, tp, i, 0⟩ (wr).heap.size rfl rfl ((H1.out).alloc _ _ _ rfl) (by omega) (by omega) ?_; intro v' w' hs' h')
                  obtain ⟨g3, o3, c3, rfl⟩ := hs'
                  go_roundw
                  case rel => exact ⟨i + 1, by omega, by go_num, ⟨_, _, _, rfl⟩, by rw [HNX.out]; exact h'⟩
                  case measure => simp [intOf]; omega
                · obtain rfl : i = m := by omega
                  go_wp2_with fail
                  go_roundw
                  case rel => exact ⟨q + 1, by omega, by go_num, ⟨_, _, _, rfl⟩, by
                    rcases (by omega : q = 0 ∨ q = 1) with rfl | rfl
                    · rw [allL_over] at hsat; exact hsat
                    · exact hsat⟩
                  case measure => simp [intOf]; omega
            · obtain rfl : q = 2 := by omega
              have hsat' : Sat W wr (Hp.own FT 4 (.slice a0 n0 c1) (goesL m xs tp val) * (Hp.rec_ K [.int .i64 2, .int .i64 3] * 1)) := by rw [← allL_end]; exact hsat
              have hll := allL_len m xs tp val 1 m (by omega) (Nat.le_refl _)
              rw [allL_end] at hll
              have hwL := goesL_wf (n := m) (val := val) tb1 tb2 HWF.out
              have hsl := hsat'.sls (by omega)
              obtain rfl := hsl.cap.1
              have HY := Lib.hid (fun (w : World) (hb : Below wr.heap.size wr w) => play_run m _ (goesL m xs tp val) w (hsl.below hb) (by omega) (by omega) (by omega) hwL)
              obtain ⟨V, hV⟩ := HG.out
              have I2 := Inv.run (goesL m xs tp val) (Inv.start m)
              have hval : ∀ x ∈ (runS (s0 m) xs).1.ch, V = x.2 := fun x hx => chosen_two I2 (a := (tp, V)) (b := x) (by rw [hV]; simp) (by rw [hV]; simp [hx])
              have HWR := Lib.hid hsat'.below
              clear hsat hsat' hsl I2 hwL hll
              generalize (runS (s0 m) xs).1 = s at *
              generalize (runS (s0 m) xs).2 = cs at *
              generalize (runS (s0 m) (goesL m xs tp val)).2 = cs2 at *
              generalize (runS (s0 m) (goesL m xs tp val)).1 = s2 at *
              have hlen2 : s2.ch.length = s.ch.length + 1 := by rw [hV]; simp
              have HV := Lib.hid hV
              have HVAL := Lib.hid hval
              have HL2 := Lib.hid hlen2
              clear hV hval hlen2 HG HA HS
              have HXL := Lib.hid (show s2.ch[s.ch.length]? = some (tp, V) by rw [HV.out]; simp)
              have i0 : (0 : Int) ≤ (s.ch.length : Int) := by omega
              have i1 : (s.ch.length : Int) < ((s.ch.length + 1 : Nat) : Int) := by omega
              by_cases hz : s.ch.length = 0
              · have hz1 : ((s.ch.length : Int) == 0) = true := by rw [cast_beq0, hz]; rfl
                clear hz
                go_wp2_with (first | (go_at_call 7; (with_reducible refine (HX.out _ HWR.out).mono ?_); rintro e w1 ⟨vc, vv, vf, vch, rfl, k1, k2, k3, k4, hb1⟩; obtain ⟨a1, d1, rfl, m1⟩ := k1.form; obtain ⟨a2, d2, rfl, m2⟩ := k2.form; obtain ⟨a3, d3, rfl, m3⟩ := k3.form; obtain ⟨a4, d4, rfl, m4⟩ := k4.form; have HK4 := Lib.hid k4; have HB1 := Lib.hid (hb1.alloc hb1.size (.cells #[.slice a1 cs.length d1, .slice a2 s.vs.length d2, .slice a3 s.fl.length d3, .slice a4 s.ch.length d4] 27)); clear hb1 k1 k2 k3 k4) | (go_at_call 7; (with_reducible refine (HY.out _ HB1.out).mono ?_); rintro e w3 ⟨vc, vv, vf, vch, rfl, k1, k2, k3, k4, hb3⟩; obtain ⟨b1, e1, rfl, n1⟩ := k1.form; obtain ⟨b2, e2, rfl, n2⟩ := k2.form; obtain ⟨b3, e3, rfl, n3⟩ := k3.form; obtain ⟨b4, e4, rfl, n4⟩ := k4.form; obtain ⟨B, of, rfl, hBl, hcB⟩ := k4.el HXL.out; have q0 : w3.cell? ⟨B, of + s.ch.length * 2, none⟩ = some (.int .i64 tp) := hcB 0 _ rfl; have q1 : w3.cell? ⟨B, of + s.ch.length * 2 + 1, none⟩ = some (.int .i64 V) := hcB 1 _ rfl; have z3 : w3.cell? ⟨w1.heap.size, 3, none⟩ = some (.slice a4 s.ch.length d4) := (hb3.cell (by simp)).trans (by rw [World.cell?_alloc_at _ _ _ _ rfl]; rfl); have hTl : w1.heap.size < w3.heap.size := Nat.lt_of_lt_of_le (by simp) hb3.size;  have HB3 := Lib.hid hb3; rw [HL2.out]; clear k1 k2 k3 k4 hb3 hcB))
                go_quiet (fail)
                go_wp2_with fail
                go_ret
                have hb4 := HB1.out.trans (HB3.out.mono HB1.out.size)
                have hb5 := (hb4.alloc hb4.size (.cells #[.slice b1 cs2.length e1, .slice b2 s2.vs.length e2, .slice b3 s2.fl.length e3, .slice (some ⟨B, of, none⟩) (s.ch.length + 1) e4] 27))
                have hb6 := hb5.alloc hb5.size (.cells #[.int .i64 tp, .int .i64 V] 32)
                exact ⟨rfl, below_drewN (HWR.out.trans (hb6.mono HWR.out.size)) _⟩
              · obtain ⟨x, hx⟩ := get_of_lt (show 0 < s.ch.length by omega)
                have HX0 := Lib.hid hx
                have HXV := Lib.hid (HVAL.out x (List.mem_of_getElem? hx))
                have hz1 : ((s.ch.length : Int) == 0) = false := by rw [cast_beq0]; exact beq_eq_false_iff_ne.2 hz
                have hz2 : (0 : Int) < (s.ch.length : Int) := by omega
                clear hz hx
                go_wp2_with (first | (go_at_call 7; (with_reducible refine (HX.out _ HWR.out).mono ?_); rintro e w1 ⟨vc, vv, vf, vch, rfl, k1, k2, k3, k4, hb1⟩; obtain ⟨a1, d1, rfl, m1⟩ := k1.form; obtain ⟨a2, d2, rfl, m2⟩ := k2.form; obtain ⟨a3, d3, rfl, m3⟩ := k3.form; obtain ⟨a4, d4, rfl, m4⟩ := k4.form; have HK4 := Lib.hid k4; have HB1 := Lib.hid (hb1.alloc hb1.size (.cells #[.slice a1 cs.length d1, .slice a2 s.vs.length d2, .slice a3 s.fl.length d3, .slice a4 s.ch.length d4] 27)); clear hb1 k1 k2 k3 k4) | (go_at_call 7; (with_reducible refine (HY.out _ HB1.out).mono ?_); rintro e w3 ⟨vc, vv, vf, vch, rfl, k1, k2, k3, k4, hb3⟩; obtain ⟨b1, e1, rfl, n1⟩ := k1.form; obtain ⟨b2, e2, rfl, n2⟩ := k2.form; obtain ⟨b3, e3, rfl, n3⟩ := k3.form; obtain ⟨b4, e4, rfl, n4⟩ := k4.form; obtain ⟨B, of, rfl, hBl, hcB⟩ := k4.el HXL.out; have q0 : w3.cell? ⟨B, of + s.ch.length * 2, none⟩ = some (.int .i64 tp) := hcB 0 _ rfl; have q1 : w3.cell? ⟨B, of + s.ch.length * 2 + 1, none⟩ = some (.int .i64 V) := hcB 1 _ rfl; have z3 : w3.cell? ⟨w1.heap.size, 3, none⟩ = some (.slice a4 s.ch.length d4) := (hb3.cell (by simp)).trans (by rw [World.cell?_alloc_at _ _ _ _ rfl]; rfl); have hTl : w1.heap.size < w3.heap.size := Nat.lt_of_lt_of_le (by simp) hb3.size; have HB3 := Lib.hid hb3; rw [HL2.out]; clear k1 k2 k3 k4 hb3 hcB))
                obtain ⟨C, oc, e0, hCl, hcC⟩ := ((HK4.out.below (below_alloc w1 (.cells #[.slice a1 cs.length d1, .slice a2 s.vs.length d2, .slice a3 s.fl.length d3, .slice a4 s.ch.length d4] 27))).below HB3.out).el HX0.out
                cases e0
                have r1 : w3.cell? ⟨C, oc + 1, none⟩ = some (.int .i64 V) := by
                  have := hcC 1 _ rfl
                  rw [← HXV.out] at this
                  simpa using this
                clear hcC
                go_quiet (fail)
                go_wp2_with fail
                go_ret
                have hb4 := HB1.out.trans (HB3.out.mono HB1.out.size)
                have hb5 := (hb4.alloc hb4.size (.cells #[.slice b1 cs2.length e1, .slice b2 s2.vs.length e2, .slice b3 s2.fl.length e3, .slice (some ⟨B, of, none⟩) (s.ch.length + 1) e4] 27))
                have hb6 := hb5.alloc hb5.size (.cells #[.int .i64 tp, .int .i64 V] 32)
                exact ⟨rfl, below_drewN (HWR.out.trans (hb6.mono HWR.out.size)) _⟩

end Go.Proofs.Ytbakeeempbadcaa
