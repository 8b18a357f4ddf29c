/- The walk of BakeryOne. -/
import Derived.Test.YthpbdckiiljegaaM1
import Derived.Test.YthpbdckiiljegaaS4
namespace Go.Proofs.Ythpbdckiiljegaa
open Go.RowKit
set_option linter.unusedVariables false

def inI (l : List Int) : Nat := (l.filter fun x => x == 5).length
theorem inI_snoc (l : List Int) (x : Int) : inI (l ++ [x]) = inI l + if x = 5 then 1 else 0 := by
  unfold inI; rw [List.filter_append]; by_cases h : x = 5 <;> simp [h]
theorem inI_take_le (l : List Int) (k : Nat) : inI (l.take k) ≤ k := by
  unfold inI; exact Nat.le_trans (List.length_filter_le _ _) (by rw [List.length_take]; omega)
theorem inI_map : ∀ (ps : List Pr), inI (ps.map fun p => (p.at_ : Int)) = inN ps
  | [] => rfl
  | p :: ps => by
    have := inI_map ps
    unfold inI inN at *
    rw [List.map_cons, List.filter_cons, List.filter_cons]
    by_cases h : p.at_ = 5
    · simp only [h]; simpa using this
    · have h' : ((p.at_ : Int) == 5) = false := by simp; omega
      rw [h']; simpa [h] using this

set_option maxHeartbeats 4000000 in
set_option maxRecDepth 100000 in
theorem one_any (n : Int) (v : Value) (xs : List Int) (W : World) (h : SlI W v xs) :
    Calls Try.prog 3 #[.int .i64 n, v] W fun e w' => e = .returned (.bool true) ∧ Below W.heap.size W w' := by
  obtain ⟨a, cap, hv, hm, _⟩ := id h
  subst hv
  by_cases hb : n < 1 ∨ 4 < n ∨ 120 < xs.length
  · have HX := Lib.hid (play_bad n _ xs W h hb)
    clear h hb
    go_enter Try.func3, Try.ntmps3
    go_wp2_with (go_at_call 7; (with_reducible refine HX.out.mono ?_); rintro e w1 ⟨rfl, hb1⟩)
    go_ret
    exact ⟨rfl, hb1.alloc hb1.size _⟩
  · obtain ⟨m, rfl⟩ := Int.eq_ofNat_of_zero_le (show 0 ≤ n by omega)
    have HX := Lib.hid (play_run m _ xs W h (by omega) (by omega) (by omega))
    have I := BInv.run xs (BInv.start m)
    have hin := I.most
    rw [← inI_map] at hin
    have hal : (((runI m (s0 m) xs).1.map fun p => (p.at_ : Int)).length : Nat) = m := by simpa using I.len
    clear I
    generalize ((runI m (s0 m) xs).1.map fun p => (p.at_ : Int)) = ats at *
    generalize (runI m (s0 m) xs).2 = ins at *
    have hcl : (xs.map (codeI m)).length = xs.length := by simp
    generalize (xs.map (codeI m)) = cs at *
    have hal' : ((ats.length : Int) == (m : Int)) = true := by simp; omega
    have hcl' : ((cs.length : Int) == (xs.length : Int)) = true := by simp; omega
    have HIN := Lib.hid hin
    have HAL := Lib.hid (And.intro hal hcl)
    clear hal hcl hin h
    go_enter Try.func3, Try.ntmps3
    go_wp2_with (go_at_call 7; (with_reducible refine HX.out.mono ?_); rintro e w1 ⟨vc, va, a3, n3, c3, a4, n4, c4, vi, rfl, k1, k2, k3, hb1⟩; obtain ⟨a1, c1, rfl, m1⟩ := k1.form; obtain ⟨a2, c2, rfl, m2⟩ := k2.form; obtain ⟨a5, c5, rfl, m5⟩ := k3.form; have K := Lib.hid (And.intro k1 (And.intro k2 hb1)); clear k1 k2 k3 hb1)
    have hbA := below_alloc w1 (.cells #[.slice a1 cs.length c1, .slice a2 ats.length c2, .slice a3 n3 c3, .slice a4 n4 c4, .slice a5 ins.length c5] 26)
    refine wp_world (fun w2 => Below W.heap.size W w2 ∧ SlS FZ 1 w2 (.slice a2 ats.length c2) ats ∧ w1.heap.size < w2.heap.size ∧ w2.cell? ⟨w1.heap.size, 0, none⟩ = some (.slice a1 cs.length c1) ∧ w2.cell? ⟨w1.heap.size, 1, none⟩ = some (.slice a2 ats.length c2))
      ⟨K.out.2.2.trans (hbA.mono K.out.2.2.size), K.out.2.1.below hbA, by simp, by rw [World.cell?_alloc_at _ _ _ _ rfl]; rfl, by rw [World.cell?_alloc_at _ _ _ _ rfl]; rfl⟩ ?_
    rintro w2 ⟨hW2, k2, hTl, z0, z1⟩
    obtain ⟨T, hT⟩ : ∃ T, T = w1.heap.size := ⟨_, rfl⟩
    rw [← hT] at hTl z0 z1 ⊢
    have HW2 := Lib.hid hW2
    have HK2 := Lib.hid k2
    clear hbA hT K hW2 k2
    go_wp2_with fail
    go_loop [7, 25] (fun c i => ∃ j : Nat, j ≤ ats.length ∧ i = .int .i64 j ∧ c = .int .i64 (inI (ats.take j))) (fun _ i => ats.length - (intOf i).toNat)
    case atStart => exact ⟨0, Nat.zero_le _, rfl, rfl⟩
    case round =>
      obtain ⟨j, hj, rfl, rfl⟩ := hrel
      have c0 := inI_take_le ats j
      by_cases hlt : j < ats.length
      · obtain ⟨x, hx⟩ := get_of_lt hlt
        obtain ⟨b0, off, rfl, hb0, hcx⟩ := HK2.out.el hx
        have x0 : w2.cell? ⟨b0, off + j, none⟩ = some (.int .i64 x) := by have := hcx 0 _ rfl; simpa using this
        have HS := Lib.hid (show inI (ats.take (j + 1)) = inI (ats.take j) + if x = 5 then 1 else 0 by rw [take_of hx, inI_snoc])
        have i0 : (0 : Int) ≤ (j : Int) := by omega
        have i1 : (j : Int) < (ats.length : Int) := by omega
        have i2 : (inI (ats.take j) : Int) ≤ 1000 := by have := HAL.out; omega
        clear hx hcx c0
        by_cases e5 : x = 5
        · subst e5
          go_wp2_with fail
          go_round
          case rel => exact ⟨j + 1, by omega, by go_num, by rw [HS.out]; go_num⟩
          case measure => simp [intOf]; omega
        · have e5' : (x == 5) = false := by simpa using e5
          have HE := Lib.hid e5
          clear e5
          go_wp2_with fail
          go_round
          case rel => exact ⟨j + 1, by omega, by go_num, by rw [HS.out, if_neg HE.out]; rfl⟩
          case measure => simp [intOf]; omega
      · obtain rfl : j = ats.length := by omega
        rw [List.take_length]
        have i2 : (inI ats : Int) ≤ 1 := by have := HIN.out; omega
        clear c0
        go_wp2_with fail
        go_ret
        exact ⟨rfl, HW2.out⟩

end Go.Proofs.Ythpbdckiiljegaa
