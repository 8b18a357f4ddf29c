/- The walk of BakeryAlone. -/
import Derived.Test.YthpbdckiiljegaaB2
import Derived.Test.YthpbdckiiljegaaS7
namespace Go.Proofs.Ythpbdckiiljegaa
open Go.RowKit
set_option linter.unusedVariables false

theorem sat_below {W w : World} (h : Below W.heap.size W w) : Sat W w 1 := (Sat.start W).of_below h
theorem Sl.sls {w : World} {a : Option Addr} {n c : Nat} {xs : List Int} (h : SlI w (.slice a n c) xs) (hc : n ≤ c) : SlS FZ 1 w (.slice a n c) xs := by
  obtain ⟨a', c', e, hm, hn, hx⟩ := h
  cases e
  refine ⟨_, _, rfl, hm, ⟨hn, hc⟩, fun j x hj => ?_⟩
  obtain ⟨b, off, rfl, hlt, hcell⟩ := hx j x hj
  refine ⟨b, off, rfl, hlt, fun i u hu => ?_⟩
  have hi : i = 0 := by have := (List.getElem?_eq_some_iff.1 hu).1; simp [FZ] at this; omega
  subst hi
  simp [FZ] at hu; subst hu
  simpa using hcell
theorem Try.eZ : Elem Try.prog 22 3 (.int .i64 0) 1 8 := ⟨Try.underlying22, by kernel_rfl, rfl, by decide⟩

set_option maxHeartbeats 8000000 in
set_option maxRecDepth 100000 in
theorem alone_any (n : Int) (v : Value) (xs : List Int) (i : Int) (W : World) (h : SlI W v xs) (hcap : ∀ a n c, v = .slice a n c → n ≤ c) (wi : (Lit.int .i64 i).wf = true) :
    Calls Try.prog 5 #[.int .i64 n, v, .int .i64 i] W fun e w' => e = .returned (.bool true) ∧ Below W.heap.size W w' := by
  obtain ⟨a, cap, rfl, hm⟩ := h.form
  have hcp := hcap _ _ _ rfl
  clear hcap
  by_cases hb : n < 1 ∨ 4 < n ∨ 120 < xs.length
  · have HX := Lib.hid (play_bad n _ xs W h hb)
    clear h hb
    go_enter Try.func5, Try.ntmps5
    go_wp2_with (go_at_call 7; (with_reducible refine HX.out.mono ?_); rintro e w1 ⟨rfl, hb1⟩; have HB1 := Lib.hid (hb1.alloc hb1.size (.cells #[.slice none 0 0, .slice none 0 0, .slice none 0 0, .slice none 0 0, .slice none 0 0] 26)); clear hb1)
    go_ret
    exact ⟨rfl, HB1.out⟩
  · obtain ⟨m, rfl⟩ := Int.eq_ofNat_of_zero_le (show 0 ≤ n by omega)
    have HX := Lib.hid (play_run m _ xs W h (by omega) (by omega) (by omega))
    have I := BInv.run xs (BInv.start m)
    have ha := I.len
    have hg := (Good.run xs (Good.start m)).2.1
    have HAL := Lib.hid (show ∀ i' : Nat, i' < m → (∀ (k : Nat) (y : Int), k ≠ i' → ((runI m (s0 m) xs).1.map fun p => (p.at_ : Int))[k]? = some y → y = 0) → ∃ r, (runI m (s0 m) (xs ++ List.replicate (3 * m + 6) (i' : Int))).2 = (runI m (s0 m) xs).2 ++ i' :: r from fun i' hi' hz => by
      obtain ⟨p, hp⟩ := get_of_lt (show i' < (runI m (s0 m) xs).1.length by rw [ha]; exact hi')
      rw [runI_append]
      refine alone_run hi' _ I hp (fun j q hj hq => ?_) (mu_le (I.one _ _ hp))
      have := hz j q.at_ hj (by rw [List.getElem?_map, hq]; rfl)
      omega)
    have HY := Lib.hid (fun (w1 : World) (ys : List Int) (v1 : Value) (h1 : SlI w1 v1 ys) (hy : ys.length ≤ 120) => play_run m v1 ys w1 h1 (by omega) (by omega) hy)
    have HS0 := Lib.hid (h.sls hcp)
    have ha' : ((runI m (s0 m) xs).1.map fun p => (p.at_ : Int)).length = m := by simpa using ha
    generalize ((runI m (s0 m) xs).1.map fun p => (p.at_ : Int)) = ats at *
    generalize (runI m (s0 m) xs).2 = ins at *
    generalize (xs.map (codeI m)) = cs at *
    have hal1 : ((ats.length : Int) == (m : Int)) = true := by simp; omega
    have hal2 : ((ats.length : Int) != (m : Int)) = false := by simp; omega
    have HLN := Lib.hid (And.intro ha' hg)
    clear h I ha hg ha'
    go_enter Try.func5, Try.ntmps5
    go_wp2_with (go_at_call 7; (with_reducible refine HX.out.mono ?_); rintro e w1 ⟨vc, va, a3, n3, c3, a4, n4, c4, vi, rfl, k1, k2, k3, hb1⟩; obtain ⟨a1, c1, rfl, m1⟩ := k1.form; obtain ⟨a2, c2, rfl, m2⟩ := k2.form; obtain ⟨a5, c5, rfl, m5⟩ := k3.form; have HK := Lib.hid (And.intro k2 (And.intro k3 hb1)); clear k1 k2 k3 hb1)
    have hbA := (below_alloc w1 (.cells #[.slice a1 cs.length c1, .slice a2 ats.length c2, .slice a3 n3 c3, .slice a4 n4 c4, .slice a5 ins.length c5] 26))
    have hbB := hbA.alloc hbA.size (.cells #[.int .i64 i] 3)
    obtain ⟨k2, k3, hb1⟩ := HK.out
    refine calls_world (fun w2 => Below W.heap.size W w2 ∧ SlI w2 (.slice (some ⟨w1.heap.size + 1, 0, none⟩) 1 1) [i] ∧ SlS FZ 1 w2 (.slice a2 ats.length c2) ats ∧ (w2.cell? ⟨w1.heap.size, 1, none⟩ = some (.slice a2 ats.length c2) ∧ w2.cell? ⟨w1.heap.size, 4, none⟩ = some (.slice a5 ins.length c5) ∧ w1.heap.size < w2.heap.size))
      ⟨hb1.trans (hbB.mono hb1.size), by have := Sl.lit (w := w1.alloc (.cells #[.slice a1 cs.length c1, .slice a2 ats.length c2, .slice a3 n3 c3, .slice a4 n4 c4, .slice a5 ins.length c5] 26)) (e := 3) [i] #[.int .i64 i] rfl (by simp); simpa using this, k2.below hbB, ?_, ?_, by simp; omega⟩ ?_
    · rw [World.cell?_alloc_old _ _ _ (by simp), World.cell?_alloc_at _ _ _ _ rfl]; rfl
    · rw [World.cell?_alloc_old _ _ _ (by simp), World.cell?_alloc_at _ _ _ _ rfl]; rfl
    clear hbA hbB k2 k3 hb1 HK
    rintro w2 ⟨hb2, hsi, k2, z1, z4, hTl⟩
    obtain ⟨T, hT⟩ : ∃ T, T = w1.heap.size := ⟨_, rfl⟩
    rw [← hT] at hTl z1 z4 hsi ⊢
    have HK2 := Lib.hid k2
    have HB2 := Lib.hid hb2
    refine (inside_any m hsi).mono ?_
    clear hT hsi k2 hb2
    rintro e w' ⟨rfl, rfl⟩
    have b0 : (0 : Int) ≤ (m : Int) := by omega
    have b1 : (m : Int) ≤ 4 := by omega
    have b2 : (xs.length : Int) ≤ 120 := by omega
    by_cases hin : insI m [i] = true
    · have hin2 := insI_iff.1 hin i (by simp)
      obtain ⟨i', rfl⟩ := Int.eq_ofNat_of_zero_le hin2.1
      have hi' : i' < m := by omega
      clear hin2
      by_cases hlen : 120 < (xs.length : Int) + 3 * (m : Int) + 6
      · go_wp2_with fail
        go_ret
        exact ⟨rfl, HB2.out⟩
      · have hlen' : (xs.length : Int) + 3 * (m : Int) + 6 ≤ 120 := by omega
        clear hlen
        go_wp2_with fail
        go_loop [9] (fun k => ∃ j : Nat, j ≤ m ∧ k = .int .i64 j ∧ ∀ (q : Nat) (y : Int), q < j → q ≠ i' → ats[q]? = some y → y = 0) (fun k => m - (intOf k).toNat)
        case atStart => exact ⟨0, Nat.zero_le _, rfl, fun q y hq => by omega⟩
        case round =>
          obtain ⟨j, hj, rfl, hno⟩ := hrel
          by_cases hlt : j < m
          · obtain ⟨y, hy⟩ := get_of_lt (show j < ats.length by have := HLN.out; omega)
            obtain ⟨b0, off, rfl, _, hcx⟩ := HK2.out.el hy
            have x0 : w2.cell? ⟨b0, off + j, none⟩ = some (.int .i64 y) := by have := hcx 0 _ rfl; simpa using this
            have i0 : (0 : Int) ≤ (j : Int) := by omega
            have i1 : (j : Int) < (ats.length : Int) := by have := HLN.out; omega
            have i2 : (j : Int) < (m : Int) := by omega
            have HNO := Lib.hid (show (j = i' ∨ y = 0) → ∀ (q : Nat) (y : Int), q < j + 1 → q ≠ i' → ats[q]? = some y → y = 0 from fun hor q z hq hqi hz => by
              rcases Nat.lt_or_eq_of_le (show q ≤ j by omega) with hlt | rfl
              · exact hno q z hlt hqi hz
              · rcases hor with h | h
                · exact absurd h hqi
                · rw [hy] at hz; cases hz; exact h)
            clear hcx hno hy
            by_cases hji : j = i'
            · have hji' : ((j : Int) != (i' : Int)) = false := by simp; omega
              have HJ := Lib.hid hji
              clear hji
              go_wp2_with fail
              go_round
              case rel => exact ⟨j + 1, by omega, by go_num, HNO.out (.inl HJ.out)⟩
              case measure => simp [intOf]; omega
            · have hji' : ((j : Int) != (i' : Int)) = true := by simp; omega
              clear hji
              by_cases hz : y = 0
              · subst hz
                go_wp2_with fail
                go_round
                case rel => exact ⟨j + 1, by omega, by go_num, HNO.out (.inr rfl)⟩
                case measure => simp [intOf]; omega
              · have h5' : (y != 0) = true := by simpa using hz
                have h5'' : (y == 0) = false := by simpa using hz
                have h5d : decide (y = 0) = false := by simpa using hz
                go_wp2_with fail
                go_ret
                exact ⟨rfl, HB2.out⟩
          · obtain rfl : j = m := by omega
            obtain ⟨r, hr⟩ := HAL.out i' hi' (fun k y hk hy => hno k y (by have := HLN.out; have := (List.getElem?_eq_some_iff.1 hy).1; omega) hk hy)
            have HR := Lib.hid hr
            have HSW := Lib.hid (Sat.start w2)
            have hi2 : (i' : Int) < (j : Int) := by omega
            have hi3 : (0 : Int) ≤ (i' : Int) := by omega
            clear hr hno hin hi'
            go_wp2_with (at_builtin; refine wpList_copyAll rfl _ _ 22 rfl Try.eZ FZ FZ_len FZ_one rfl rfl HSW.out ((HS0.out.below HB2.out).below (below_alloc _ _)) (by omega) ?_; intro v1 w3 hv1 h1; have H1 := Lib.hid h1; obtain ⟨av, cv, rfl⟩ := hv1; clear h1)
            have HREP := Lib.hid (fun q : Nat => (show (xs ++ List.replicate q (i' : Int)).length = xs.length + q by simp))
            go_loopw [10, 11] (fun v k wr => ∃ q : Nat, q ≤ 3 * j + 6 ∧ k = .int .i64 q ∧ (∃ a n c, v = .slice a n c) ∧ Sat w2 wr (Hp.own FZ 1 v (xs ++ List.replicate q (i' : Int)) * 1)) (fun _ k _ => 3 * j + 6 - (intOf k).toNat)
            case atStart => exact ⟨0, by omega, rfl, ⟨_, _, _, rfl⟩, by simpa using H1.out⟩
            case round =>
              obtain ⟨q, hq, rfl, ⟨a6, n6, c6, rfl⟩, hsat⟩ := hrel
              by_cases hlt2 : q < 3 * j + 6
              · have hl := HREP.out q
                have HNX := Lib.hid (show xs ++ List.replicate (q + 1) (i' : Int) = (xs ++ List.replicate q (i' : Int)) ++ [(i' : Int)] by rw [List.replicate_succ', List.append_assoc])
                have H2 := Lib.hid hsat
                have l0 : (q : Int) < 3 * (j : Int) + 6 := by omega
                have hl2 : (xs ++ List.replicate q (i' : Int)).length ≤ 130 := by omega
                clear hsat
                generalize xs ++ List.replicate q (i' : Int) = ys at *
                clear hl
                go_wp2_with (at_builtin; refine wpList_pushH rfl _ _ 22 rfl Try.eZ FZ FZ_len FZ_one (i' : Int) (wr).heap.size rfl rfl ((H2.out).alloc _ _ _ rfl) (by omega) (by omega) ?_; intro v' w' hs' h')
                obtain ⟨g3, o3, c3, rfl⟩ := hs'
                go_roundw
                case rel => exact ⟨q + 1, by omega, by go_num, ⟨_, _, _, rfl⟩, by rw [HNX.out]; exact h'⟩
                case measure => simp [intOf]; omega
              · obtain rfl : q = 3 * j + 6 := by omega
                have hl := HREP.out (3 * j + 6)
                obtain ⟨ao, co, ho, _⟩ := hsat.ows.form
                cases ho
                have hbr := hsat.below
                have y4 : wr.cell? ⟨T, 4, none⟩ = some (.slice a5 ins.length c5) := (hbr.cell (p := ⟨T, 4, none⟩) hTl).trans z4
                have hTr := Nat.lt_of_lt_of_le hTl hbr.size
                have HP2 := Lib.hid (HY.out wr _ _ (hsat.sls (by omega)).one (by omega))
                have HBR := Lib.hid (HB2.out.trans (hbr.mono HB2.out.size))
                have l0 : (3 : Int) * (j : Int) + 6 ≤ ((3 * j + 6 : Nat) : Int) := by omega
                have hl2 : ((3 * j + 6 : Nat) : Int) = 3 * (j : Int) + 6 := by omega
                have HLX := Lib.hid (show ((runI j (s0 j) (xs ++ List.replicate (3 * j + 6) (i' : Int))).2) = ins ++ i' :: r from HR.out)
                clear hsat hbr hl l0
                generalize (runI j (s0 j) (xs ++ List.replicate (3 * j + 6) (i' : Int))).2 = ins2 at *
                generalize ((runI j (s0 j) (xs ++ List.replicate (3 * j + 6) (i' : Int))).1.map fun p => (p.at_ : Int)) = ats2 at *
                generalize ((xs ++ List.replicate (3 * j + 6) (i' : Int)).map (codeI j)) = cs2 at *
                generalize xs ++ List.replicate (3 * j + 6) (i' : Int) = ys at *
                have q1 : (0 : Int) ≤ (ins.length : Int) := by omega
                have q2 : (ins.length : Int) < (ins2.length : Int) := by rw [HLX.out]; simp; omega
                have HIX := Lib.hid (show ins2[ins.length]? = some i' by rw [HLX.out]; simp)
                clear HLX HR HAL HREP
                go_wp2_with (go_at_call 7; (with_reducible refine HP2.out.mono ?_); rintro e w5 ⟨vc', va', b3, p3, d3, b4, p4, d4, vi', rfl, g1, g2, g3, hb5⟩; obtain ⟨b1, d1, rfl, _⟩ := g1.form; obtain ⟨b2, d2, rfl, _⟩ := g2.form; obtain ⟨b5, d5, rfl, _⟩ := g3.form; obtain ⟨bb, bo, rfl, hbl, hbc⟩ := g3.el HIX.out; have c0 : w5.cell? ⟨bb, bo + ins.length, none⟩ = some (.int .i64 i') := (by have := hbc 0 _ rfl; simpa using this); have t4 : w5.cell? ⟨T, 4, none⟩ = some (.slice a5 ins.length c5) := (hb5.cell (p := ⟨T, 4, none⟩) hTr).trans y4; have hT5 := Nat.lt_of_lt_of_le hTr hb5.size; have HG := Lib.hid hb5; clear g1 g2 g3 hbc hb5)
                go_ret
                have hbf := HBR.out.trans (HG.out.mono HBR.out.size)
                exact ⟨rfl, hbf.alloc hbf.size _⟩
    · have hin' : insI m [i] = false := by simpa using hin
      clear hin
      go_wp2_with fail
      go_ret
      exact ⟨rfl, HB2.out⟩

end Go.Proofs.Ythpbdckiiljegaa
