/- The laws of what is before what. No condition. -/
import Derived.Test.YtehcefknofcmiaaC3
namespace Go.Proofs.Ytehcefknofcmiaa
open Go.RowKit
set_option linter.unusedVariables false
set_option maxRecDepth 100000

def leqB (xs ys : List Int) : Bool := decide (xs.length = ys.length ∧ ∀ q, q < xs.length → xs.getD q 0 ≤ ys.getD q 0)
theorem leq_any {W : World} {va vb : Value} {xs ys : List Int} (ha : SlS SZ 1 W va xs) (hb : SlS SZ 1 W vb ys) : Calls Try.prog 17 #[va, vb] W fun e w' => e = .returned (.bool (leqB xs ys)) ∧ Below W.heap.size W w' := by
  have m1 := len_bd ha
  have m2 := len_bd hb
  refine calls_pure (Gx.enter (l := []) Try.func17 rfl Try.ntmps17 rfl (Sat.start W) ?_)
  refine Gx.know (m' := [(0, va), (1, vb)]) (.cons rfl (.cons rfl .nil)) ?_
  refine Gx.seq ?_
  refine Gx.region ?_
  refine Gx.val rfl rfl rfl (val_assign rfl rfl) ?_
  refine Gx.done ?_
  refine Gx.thenN ?_
  refine Gx.seq ?_
  refine Gx.seq ?_
  refine Gx.region ?_
  refine Gx.val rfl rfl rfl (val_move rfl rfl) ?_
  refine Gx.val rfl rfl rfl (val_len rfl Try.underlying32 rfl (len_base ha)) ?_
  refine Gx.val rfl rfl rfl (val_move rfl rfl) ?_
  refine Gx.val rfl rfl rfl (val_len rfl Try.underlying32 rfl (len_base hb)) ?_
  refine Gx.val rfl rfl rfl (val_neq rfl rfl rfl) ?_
  refine Gx.done ?_
  refine Gx.thenN ?_
  refine Gx.dec rfl (fun h1 => ?_) (fun h1 => ?_)
  · refine Gx.seq ?_
    refine Gx.region ?_
    refine Gx.val rfl rfl rfl (val_assign rfl rfl) ?_
    refine Gx.done ?_
    refine Gx.thenN ?_
    refine Gx.ret ?_
    refine Gx.thenR ?_
    refine Gx.ret1 Try.results17 rfl ?_
    exact (congrArg Value.bool (decide_eq_false fun h => by have := h.1; omega)).symm
  · refine Gx.skip ?_
    refine Gx.thenN ?_
    refine Gx.seq ?_
    refine Gx.seq ?_
    refine Gx.region ?_
    refine Gx.val rfl rfl rfl (val_assign rfl rfl) ?_
    refine Gx.done ?_
    refine Gx.thenN ?_
    refine Gx.block ?_
    refine Gx.loop (ι := Nat) (fun ξ => (ξ ≤ xs.length) ∧ (∀ q, q < ξ → xs.getD q 0 ≤ ys.getD q 0)) (fun ξ => [(0, va), (1, vb), (5, .int .i64 ((ξ : Nat) : Int))]) (fun ξ => []) (fun ξ => xs.length - ξ) 0 ⟨by omega, by omega⟩ ((.cons rfl (.cons rfl (.cons rfl .nil)))) rfl ?_
    rintro k ⟨hk, hn⟩
    refine Gx.know (m' := [(0, va), (1, vb), (5, .int .i64 ((k : Nat) : Int))]) (.cons rfl (.cons rfl (.cons rfl .nil))) (Gx.norm (l' := []) rfl ?_)
    refine Gx.seq ?_
    refine Gx.seq ?_
    refine Gx.region ?_
    refine Gx.val rfl rfl rfl (val_move rfl rfl) ?_
    refine Gx.val rfl rfl rfl (val_move rfl rfl) ?_
    refine Gx.val rfl rfl rfl (val_len rfl Try.underlying32 rfl (len_base ha)) ?_
    refine Gx.val rfl rfl rfl (val_lss rfl rfl rfl) ?_
    refine Gx.done ?_
    refine Gx.thenN ?_
    refine Gx.dec rfl (fun h2 => ?_) (fun h2 => ?_)
    · refine Gx.skip ?_
      refine Gx.thenN ?_
      refine Gx.seq ?_
      refine Gx.block ?_
      refine Gx.seq ?_
      refine Gx.regionQ Try.mixed (by kernel_rfl) ?_
      refine Gq.val rfl rfl rfl (val_move rfl rfl) ?_
      refine Gq.val rfl rfl rfl (val_move rfl rfl) ?_
      obtain ⟨x3, hx3⟩ := get_of_lt (xs := xs) (k := k) (by omega)
      refine Gq.val rfl rfl rfl (val_ixa rfl Try.underlying32 Try.ty3 rfl rfl (j := k) (rfl) (reach_base ha hx3)) ?_
      refine Gq.val rfl rfl rfl (val_load rfl Try.ty3 rfl rfl (cell_base (i := 0) ha hx3 rfl)) ?_
      refine Gq.val rfl rfl rfl (val_move rfl rfl) ?_
      refine Gq.val rfl rfl rfl (val_move rfl rfl) ?_
      obtain ⟨x4, hx4⟩ := get_of_lt (xs := ys) (k := k) (by omega)
      refine Gq.val rfl rfl rfl (val_ixa rfl Try.underlying32 Try.ty3 rfl rfl (j := k) (rfl) (reach_base hb hx4)) ?_
      refine Gq.val rfl rfl rfl (val_load rfl Try.ty3 rfl rfl (cell_base (i := 0) hb hx4 rfl)) ?_
      refine Gq.val rfl rfl rfl (val_gtr rfl rfl rfl) ?_
      refine Gq.done ?_
      refine Gx.thenN ?_
      refine Gx.dec rfl (fun h5 => ?_) (fun h5 => ?_)
      · refine Gx.seq ?_
        refine Gx.region ?_
        refine Gx.val rfl rfl rfl (val_assign rfl rfl) ?_
        refine Gx.done ?_
        refine Gx.thenN ?_
        refine Gx.ret ?_
        refine Gx.blkR ?_
        refine Gx.thenR ?_
        refine Gx.thenR ?_
        refine Gx.blkR ?_
        refine Gx.thenR ?_
        refine Gx.ret1 Try.results17 rfl ?_
        exact (congrArg Value.bool (decide_eq_false fun h => by have q := h.2 k (by omega); rw [getD_of hx3, getD_of hx4] at q; omega)).symm
      · refine Gx.skip ?_
        refine Gx.blkN ?_
        refine Gx.thenN ?_
        refine Gx.region ?_
        refine Gx.val rfl rfl rfl (val_move rfl rfl) ?_
        refine Gx.val rfl rfl rfl (val_add rfl rfl rfl (r := ((k + 1 : Nat) : Int)) (w64 (by omega) (by omega))) ?_
        refine Gx.val rfl rfl rfl (val_assign rfl rfl) ?_
        refine Gx.done ?_
        refine Gx.thenN ?_
        exact Gx.round (k + 1) ⟨by omega, fun q hq => by rcases Nat.lt_or_eq_of_le (Nat.le_of_lt_succ hq) with h | h; (exact hn q h); (subst h; rw [getD_of hx3, getD_of hx4]; omega)⟩ (by omega) ((.cons rfl (.cons rfl (.cons rfl .nil)))) rfl
    · refine Gx.exit ?_
      refine Gx.thenE ?_
      refine Gx.thenE ?_
      refine Gx.blkE ?_
      refine Gx.thenN ?_
      refine Gx.seq ?_
      refine Gx.region ?_
      refine Gx.val rfl rfl rfl (val_assign rfl rfl) ?_
      refine Gx.done ?_
      refine Gx.thenN ?_
      refine Gx.ret ?_
      refine Gx.ret1 Try.results17 rfl ?_
      exact (congrArg Value.bool (decide_eq_true ⟨by omega, fun q hq => hn q (by omega)⟩)).symm

theorem order_bad {W : World} {v : Value} {l : List Ev} (n i j k : Int) (hs : SlS FE 3 W v l) (hok : ¬ OkE n l) :
    Calls Try.prog 6 #[.int .i64 n, v, .int .i64 i, .int .i64 j, .int .i64 k] W fun e w' => e = .returned (.bool true) ∧ Below W.heap.size W w' := by
  have hm := len_bd hs
  refine calls_pure (Gx.enter (l := []) Try.func6 rfl Try.ntmps6 rfl (Sat.start W) ?_)
  refine Gx.know (m' := [(0, .int .i64 n), (1, v), (2, .int .i64 i), (3, .int .i64 j), (4, .int .i64 k)]) (.cons rfl (.cons rfl (.cons rfl (.cons rfl (.cons rfl .nil))))) ?_
  refine Gx.seq ?_
  refine Gx.region ?_
  refine Gx.val rfl rfl rfl (val_assign rfl rfl) ?_
  refine Gx.done ?_
  refine Gx.thenN ?_
  refine Gx.seq ?_
  refine Gx.seq ?_
  refine Gx.region ?_
  refine Gx.val rfl rfl rfl (val_move rfl rfl) ?_
  refine Gx.val rfl rfl rfl (val_move rfl rfl) ?_
  refine Gx.val rfl rfl rfl (val_call (vs := [.int .i64 n, v]) rfl Try.fn9 rfl (fun w H => events_no n (hs.below H.below) hok)) ?_
  refine Gx.val rfl rfl rfl (Val.cast (val_not rfl rfl) (v' := .bool true) rfl) ?_
  refine Gx.done ?_
  refine Gx.thenN ?_
  refine Gx.t rfl ?_
  refine Gx.seq ?_
  refine Gx.region ?_
  refine Gx.val rfl rfl rfl (val_move rfl rfl) ?_
  refine Gx.val rfl rfl rfl (val_move rfl rfl) ?_
  refine Gx.eff rfl rfl rfl (eff_callE (vs := [.int .i64 n, v]) rfl Try.fn10 rfl (R := fun u => ∃ c : Int, u = .int .i64 c ∧ c ≠ 0) (fun w H => check_no n (hs.below H.below) hok)) ?_
  rintro _ _ ⟨⟨c1, rfl, hc1⟩, rfl⟩
  refine Gx.val rfl rfl rfl (val_neq rfl rfl rfl) ?_
  refine Gx.val rfl rfl rfl (val_assign rfl rfl) ?_
  refine Gx.done ?_
  refine Gx.thenN ?_
  refine Gx.ret ?_
  refine Gx.thenR ?_
  refine Gx.ret1 Try.results6 rfl ?_
  exact congrArg Value.bool (decide_eq_true (by assumption))

theorem before_some {W : World} {v : Value} {l : List Ev} (n : Nat) (i j : Int) (hs : SlS FE 3 W v l) (hok : OkE n l) :
    Calls Try.prog 16 #[.int .i64 n, v, .int .i64 i, .int .i64 j] W fun e w' => ∃ u, e = .returned u ∧ (∃ b c, u = .tuple #[.bool b, .int .i64 c] ∧ (c = 0 → 0 ≤ i ∧ i < l.length ∧ 0 ≤ j ∧ j < l.length)) ∧ Below W.heap.size W w' := by
  by_cases h : 0 ≤ i ∧ i < l.length ∧ 0 ≤ j ∧ j < l.length
  · obtain ⟨a, rfl⟩ := Int.eq_ofNat_of_zero_le h.1
    obtain ⟨b, rfl⟩ := Int.eq_ofNat_of_zero_le h.2.2.1
    exact (before_ok n a b hs hok (by omega) (by omega)).mono fun e w' ⟨he, hb⟩ => ⟨_, he, ⟨_, _, rfl, fun _ => h⟩, hb⟩
  · exact (before_out n i j hs hok h).mono fun e w' ⟨u, he, ⟨b, c, hu, hc⟩, hb⟩ => ⟨u, he, ⟨b, c, hu, fun e => absurd e hc⟩, hb⟩
theorem order_out {W : World} {v : Value} {l : List Ev} (n : Nat) (i j k : Int) (hs : SlS FE 3 W v l) (hok : OkE n l) (hns : ¬ (0 ≤ i ∧ i < l.length ∧ 0 ≤ j ∧ j < l.length ∧ 0 ≤ k ∧ k < l.length)) (hin : insI l.length [i, j, k] = false) :
    Calls Try.prog 6 #[.int .i64 ((n : Nat) : Int), v, .int .i64 i, .int .i64 j, .int .i64 k] W fun e w' => e = .returned (.bool true) ∧ Below W.heap.size W w' := by
  have hm := len_bd hs
  refine calls_pure (Gx.enter (l := []) Try.func6 rfl Try.ntmps6 rfl (Sat.start W) ?_)
  refine Gx.know (m' := [(0, .int .i64 ((n : Nat) : Int)), (1, v), (2, .int .i64 i), (3, .int .i64 j), (4, .int .i64 k)]) (.cons rfl (.cons rfl (.cons rfl (.cons rfl (.cons rfl .nil))))) ?_
  refine Gx.seq ?_
  refine Gx.region ?_
  refine Gx.val rfl rfl rfl (val_assign rfl rfl) ?_
  refine Gx.done ?_
  refine Gx.thenN ?_
  refine Gx.seq ?_
  refine Gx.seq ?_
  refine Gx.region ?_
  refine Gx.val rfl rfl rfl (val_move rfl rfl) ?_
  refine Gx.val rfl rfl rfl (val_move rfl rfl) ?_
  refine Gx.val rfl rfl rfl (val_call (vs := [.int .i64 ((n : Nat) : Int), v]) rfl Try.fn9 rfl (fun w H => events_ok ((n : Nat) : Int) (hs.below H.below) hok)) ?_
  refine Gx.val rfl rfl rfl (Val.cast (val_not rfl rfl) (v' := .bool false) rfl) ?_
  refine Gx.done ?_
  refine Gx.thenN ?_
  refine Gx.f rfl ?_
  refine Gx.skip ?_
  refine Gx.thenN ?_
  refine Gx.seq ?_
  refine Gx.region ?_
  refine Gx.val rfl rfl rfl (val_move rfl rfl) ?_
  refine Gx.val rfl rfl rfl (val_move rfl rfl) ?_
  refine Gx.val rfl rfl rfl (val_move rfl rfl) ?_
  refine Gx.val rfl rfl rfl (val_move rfl rfl) ?_
  refine Gx.eff rfl rfl rfl (eff_callE (vs := [.int .i64 ((n : Nat) : Int), v, .int .i64 i, .int .i64 j]) rfl Try.fn16 rfl (R := fun u => ∃ b c, u = .tuple #[.bool b, .int .i64 c] ∧ (c = 0 → 0 ≤ i ∧ i < l.length ∧ 0 ≤ j ∧ j < l.length)) (fun w H => before_some n i j (hs.below H.below) hok)) ?_
  rintro _ _ ⟨⟨b1, c2, rfl, hc2⟩, rfl⟩
  refine Gx.val rfl rfl rfl (val_move rfl rfl) ?_
  refine Gx.val rfl rfl rfl (val_extract rfl rfl rfl) ?_
  refine Gx.val rfl rfl rfl (val_extract rfl rfl rfl) ?_
  refine Gx.val rfl rfl rfl (val_assign rfl rfl) ?_
  refine Gx.val rfl rfl rfl (val_assign rfl rfl) ?_
  refine Gx.done ?_
  refine Gx.thenN ?_
  refine Gx.seq ?_
  refine Gx.region ?_
  refine Gx.val rfl rfl rfl (val_move rfl rfl) ?_
  refine Gx.val rfl rfl rfl (val_move rfl rfl) ?_
  refine Gx.val rfl rfl rfl (val_move rfl rfl) ?_
  refine Gx.val rfl rfl rfl (val_move rfl rfl) ?_
  refine Gx.eff rfl rfl rfl (eff_callE (vs := [.int .i64 ((n : Nat) : Int), v, .int .i64 j, .int .i64 k]) rfl Try.fn16 rfl (R := fun u => ∃ b c, u = .tuple #[.bool b, .int .i64 c] ∧ (c = 0 → 0 ≤ j ∧ j < l.length ∧ 0 ≤ k ∧ k < l.length)) (fun w H => before_some n j k (hs.below H.below) hok)) ?_
  rintro _ _ ⟨⟨b3, c4, rfl, hc4⟩, rfl⟩
  refine Gx.val rfl rfl rfl (val_move rfl rfl) ?_
  refine Gx.val rfl rfl rfl (val_extract rfl rfl rfl) ?_
  refine Gx.val rfl rfl rfl (val_extract rfl rfl rfl) ?_
  refine Gx.val rfl rfl rfl (val_assign rfl rfl) ?_
  refine Gx.val rfl rfl rfl (val_assign rfl rfl) ?_
  refine Gx.done ?_
  refine Gx.thenN ?_
  refine Gx.seq ?_
  refine Gx.region ?_
  refine Gx.val rfl rfl rfl (val_move rfl rfl) ?_
  refine Gx.val rfl rfl rfl (val_move rfl rfl) ?_
  refine Gx.val rfl rfl rfl (val_move rfl rfl) ?_
  refine Gx.val rfl rfl rfl (val_move rfl rfl) ?_
  refine Gx.eff rfl rfl rfl (eff_callE (vs := [.int .i64 ((n : Nat) : Int), v, .int .i64 i, .int .i64 k]) rfl Try.fn16 rfl (R := fun u => ∃ b c, u = .tuple #[.bool b, .int .i64 c] ∧ (c = 0 → 0 ≤ i ∧ i < l.length ∧ 0 ≤ k ∧ k < l.length)) (fun w H => before_some n i k (hs.below H.below) hok)) ?_
  rintro _ _ ⟨⟨b5, c6, rfl, hc6⟩, rfl⟩
  refine Gx.val rfl rfl rfl (val_move rfl rfl) ?_
  refine Gx.val rfl rfl rfl (val_extract rfl rfl rfl) ?_
  refine Gx.val rfl rfl rfl (val_extract rfl rfl rfl) ?_
  refine Gx.val rfl rfl rfl (val_assign rfl rfl) ?_
  refine Gx.val rfl rfl rfl (val_assign rfl rfl) ?_
  refine Gx.done ?_
  refine Gx.thenN ?_
  refine Gx.seq ?_
  refine Gx.region ?_
  refine Gx.val rfl rfl rfl (val_move rfl rfl) ?_
  refine Gx.val rfl rfl rfl (val_move rfl rfl) ?_
  refine Gx.val rfl rfl rfl (val_move rfl rfl) ?_
  refine Gx.val rfl rfl rfl (val_move rfl rfl) ?_
  refine Gx.eff rfl rfl rfl (eff_callE (vs := [.int .i64 ((n : Nat) : Int), v, .int .i64 i, .int .i64 i]) rfl Try.fn16 rfl (R := fun u => ∃ b c, u = .tuple #[.bool b, .int .i64 c] ∧ (c = 0 → 0 ≤ i ∧ i < l.length ∧ 0 ≤ i ∧ i < l.length)) (fun w H => before_some n i i (hs.below H.below) hok)) ?_
  rintro _ _ ⟨⟨b7, c8, rfl, hc8⟩, rfl⟩
  refine Gx.val rfl rfl rfl (val_move rfl rfl) ?_
  refine Gx.val rfl rfl rfl (val_extract rfl rfl rfl) ?_
  refine Gx.val rfl rfl rfl (val_extract rfl rfl rfl) ?_
  refine Gx.val rfl rfl rfl (val_assign rfl rfl) ?_
  refine Gx.val rfl rfl rfl (val_assign rfl rfl) ?_
  refine Gx.done ?_
  refine Gx.thenN ?_
  refine Gx.seq ?_
  refine Gx.seq ?_
  refine Gx.region ?_
  refine Gx.val rfl rfl rfl (val_move rfl rfl) ?_
  refine Gx.val rfl rfl rfl (val_len rfl Try.underlying22 rfl (len_base hs)) ?_
  refine Gx.val rfl rfl rfl (val_move rfl rfl) ?_
  refine Gx.val rfl rfl rfl (val_move rfl rfl) ?_
  refine Gx.val rfl rfl rfl (val_move rfl rfl) ?_
  refine Gx.eff rfl rfl rfl (eff_buildSlice rfl (qs := [(0, .int .i64 i), (1, .int .i64 j), (2, .int .i64 k)]) rfl rfl (cs := #[.int .i64 i, .int .i64 j, .int .i64 k]) (vs := [.int .i64 i, .int .i64 j, .int .i64 k]) (E := 3) rfl (fun w => by first | (go_simp; done) | (go_simp; rfl))) ?_
  rintro _ _ ⟨b9, rfl, rfl⟩
  refine Gx.val rfl rfl rfl (val_call (vs := [.int .i64 ((l.length : Nat) : Int), .slice (some ⟨b9, 0, none⟩) 3 3]) rfl Try.fn14 rfl (fun w H => inside_b ((l.length : Nat) : Int) (recs_sz (xs := [i, j, k]) (H.at_ (k := 0) rfl) rfl))) ?_
  refine Gx.val rfl rfl rfl (val_not rfl rfl) ?_
  refine Gx.done ?_
  refine Gx.thenN ?_
  refine Gx.boolT rfl (by rw [hin]; rfl) ?_
  refine Gx.seq ?_
  refine Gx.region ?_
  refine Gx.val rfl rfl rfl (val_move rfl rfl) ?_
  refine Gx.val rfl rfl rfl (val_neq rfl rfl rfl) ?_
  refine Gx.val rfl rfl rfl (val_move rfl rfl) ?_
  refine Gx.cases (t := 69) rfl (fun h10 => ?_) (fun h10 => ?_)
  · refine Gx.skipg rfl rfl rfl rfl rfl rfl ?_
    refine Gx.skipg rfl rfl rfl rfl rfl rfl ?_
    refine Gx.val rfl rfl rfl (val_pickT rfl rfl rfl) ?_
    refine Gx.val rfl rfl rfl (val_assign rfl rfl) ?_
    refine Gx.done ?_
    refine Gx.thenN ?_
    refine Gx.ret ?_
    refine Gx.thenR ?_
    refine Gx.ret1 Try.results6 rfl ?_
    rfl
  · refine Gx.valg rfl rfl rfl rfl rfl (val_move rfl rfl) ?_
    refine Gx.valg rfl rfl rfl rfl rfl (val_neq rfl rfl rfl) ?_
    refine Gx.val rfl rfl rfl (val_pickF rfl rfl rfl) ?_
    refine Gx.val rfl rfl rfl (val_assign rfl rfl) ?_
    refine Gx.done ?_
    refine Gx.thenN ?_
    refine Gx.ret ?_
    refine Gx.thenR ?_
    refine Gx.ret1 Try.results6 rfl ?_
    exact congrArg Value.bool (decide_eq_true (by omega))

theorem order_in {W : World} {v : Value} {l : List Ev} (n i j k : Nat) (hs : SlS FE 3 W v l) (hok : OkE n l) (hi : i < l.length) (hj : j < l.length) (hk : k < l.length) :
    Calls Try.prog 6 #[.int .i64 ((n : Nat) : Int), v, .int .i64 ((i : Nat) : Int), .int .i64 ((j : Nat) : Int), .int .i64 ((k : Nat) : Int)] W fun e w' => e = .returned (.bool true) ∧ Below W.heap.size W w' := by
  have hm := len_bd hs
  refine calls_pure (Gx.enter (l := []) Try.func6 rfl Try.ntmps6 rfl (Sat.start W) ?_)
  refine Gx.know (m' := [(0, .int .i64 ((n : Nat) : Int)), (1, v), (2, .int .i64 ((i : Nat) : Int)), (3, .int .i64 ((j : Nat) : Int)), (4, .int .i64 ((k : Nat) : Int))]) (.cons rfl (.cons rfl (.cons rfl (.cons rfl (.cons rfl .nil))))) ?_
  refine Gx.seq ?_
  refine Gx.region ?_
  refine Gx.val rfl rfl rfl (val_assign rfl rfl) ?_
  refine Gx.done ?_
  refine Gx.thenN ?_
  refine Gx.seq ?_
  refine Gx.seq ?_
  refine Gx.region ?_
  refine Gx.val rfl rfl rfl (val_move rfl rfl) ?_
  refine Gx.val rfl rfl rfl (val_move rfl rfl) ?_
  refine Gx.val rfl rfl rfl (val_call (vs := [.int .i64 ((n : Nat) : Int), v]) rfl Try.fn9 rfl (fun w H => events_ok ((n : Nat) : Int) (hs.below H.below) hok)) ?_
  refine Gx.val rfl rfl rfl (Val.cast (val_not rfl rfl) (v' := .bool false) rfl) ?_
  refine Gx.done ?_
  refine Gx.thenN ?_
  refine Gx.f rfl ?_
  refine Gx.skip ?_
  refine Gx.thenN ?_
  refine Gx.seq ?_
  refine Gx.region ?_
  refine Gx.val rfl rfl rfl (val_move rfl rfl) ?_
  refine Gx.val rfl rfl rfl (val_move rfl rfl) ?_
  refine Gx.val rfl rfl rfl (val_move rfl rfl) ?_
  refine Gx.val rfl rfl rfl (val_move rfl rfl) ?_
  refine Gx.val rfl rfl rfl (val_call (vs := [.int .i64 ((n : Nat) : Int), v, .int .i64 ((i : Nat) : Int), .int .i64 ((j : Nat) : Int)]) rfl Try.fn16 rfl (fun w H => before_ok n i j (hs.below H.below) hok (by assumption) (by assumption))) ?_
  refine Gx.val rfl rfl rfl (val_move rfl rfl) ?_
  refine Gx.val rfl rfl rfl (val_extract rfl rfl rfl) ?_
  refine Gx.val rfl rfl rfl (val_extract rfl rfl rfl) ?_
  refine Gx.val rfl rfl rfl (val_assign rfl rfl) ?_
  refine Gx.val rfl rfl rfl (val_assign rfl rfl) ?_
  refine Gx.done ?_
  refine Gx.thenN ?_
  refine Gx.seq ?_
  refine Gx.region ?_
  refine Gx.val rfl rfl rfl (val_move rfl rfl) ?_
  refine Gx.val rfl rfl rfl (val_move rfl rfl) ?_
  refine Gx.val rfl rfl rfl (val_move rfl rfl) ?_
  refine Gx.val rfl rfl rfl (val_move rfl rfl) ?_
  refine Gx.val rfl rfl rfl (val_call (vs := [.int .i64 ((n : Nat) : Int), v, .int .i64 ((j : Nat) : Int), .int .i64 ((k : Nat) : Int)]) rfl Try.fn16 rfl (fun w H => before_ok n j k (hs.below H.below) hok (by assumption) (by assumption))) ?_
  refine Gx.val rfl rfl rfl (val_move rfl rfl) ?_
  refine Gx.val rfl rfl rfl (val_extract rfl rfl rfl) ?_
  refine Gx.val rfl rfl rfl (val_extract rfl rfl rfl) ?_
  refine Gx.val rfl rfl rfl (val_assign rfl rfl) ?_
  refine Gx.val rfl rfl rfl (val_assign rfl rfl) ?_
  refine Gx.done ?_
  refine Gx.thenN ?_
  refine Gx.seq ?_
  refine Gx.region ?_
  refine Gx.val rfl rfl rfl (val_move rfl rfl) ?_
  refine Gx.val rfl rfl rfl (val_move rfl rfl) ?_
  refine Gx.val rfl rfl rfl (val_move rfl rfl) ?_
  refine Gx.val rfl rfl rfl (val_move rfl rfl) ?_
  refine Gx.val rfl rfl rfl (val_call (vs := [.int .i64 ((n : Nat) : Int), v, .int .i64 ((i : Nat) : Int), .int .i64 ((k : Nat) : Int)]) rfl Try.fn16 rfl (fun w H => before_ok n i k (hs.below H.below) hok (by assumption) (by assumption))) ?_
  refine Gx.val rfl rfl rfl (val_move rfl rfl) ?_
  refine Gx.val rfl rfl rfl (val_extract rfl rfl rfl) ?_
  refine Gx.val rfl rfl rfl (val_extract rfl rfl rfl) ?_
  refine Gx.val rfl rfl rfl (val_assign rfl rfl) ?_
  refine Gx.val rfl rfl rfl (val_assign rfl rfl) ?_
  refine Gx.done ?_
  refine Gx.thenN ?_
  refine Gx.seq ?_
  refine Gx.region ?_
  refine Gx.val rfl rfl rfl (val_move rfl rfl) ?_
  refine Gx.val rfl rfl rfl (val_move rfl rfl) ?_
  refine Gx.val rfl rfl rfl (val_move rfl rfl) ?_
  refine Gx.val rfl rfl rfl (val_move rfl rfl) ?_
  refine Gx.val rfl rfl rfl (val_call (vs := [.int .i64 ((n : Nat) : Int), v, .int .i64 ((i : Nat) : Int), .int .i64 ((i : Nat) : Int)]) rfl Try.fn16 rfl (fun w H => before_ok n i i (hs.below H.below) hok (by assumption) (by assumption))) ?_
  refine Gx.val rfl rfl rfl (val_move rfl rfl) ?_
  refine Gx.val rfl rfl rfl (val_extract rfl rfl rfl) ?_
  refine Gx.val rfl rfl rfl (val_extract rfl rfl rfl) ?_
  refine Gx.val rfl rfl rfl (val_assign rfl rfl) ?_
  refine Gx.val rfl rfl rfl (val_assign rfl rfl) ?_
  refine Gx.done ?_
  refine Gx.thenN ?_
  refine Gx.seq ?_
  refine Gx.seq ?_
  refine Gx.region ?_
  refine Gx.val rfl rfl rfl (val_move rfl rfl) ?_
  refine Gx.val rfl rfl rfl (val_len rfl Try.underlying22 rfl (len_base hs)) ?_
  refine Gx.val rfl rfl rfl (val_move rfl rfl) ?_
  refine Gx.val rfl rfl rfl (val_move rfl rfl) ?_
  refine Gx.val rfl rfl rfl (val_move rfl rfl) ?_
  refine Gx.eff rfl rfl rfl (eff_buildSlice rfl (qs := [(0, .int .i64 ((i : Nat) : Int)), (1, .int .i64 ((j : Nat) : Int)), (2, .int .i64 ((k : Nat) : Int))]) rfl rfl (cs := #[.int .i64 ((i : Nat) : Int), .int .i64 ((j : Nat) : Int), .int .i64 ((k : Nat) : Int)]) (vs := [.int .i64 ((i : Nat) : Int), .int .i64 ((j : Nat) : Int), .int .i64 ((k : Nat) : Int)]) (E := 3) rfl (fun w => by first | (go_simp; done) | (go_simp; rfl))) ?_
  rintro _ _ ⟨b1, rfl, rfl⟩
  refine Gx.val rfl rfl rfl (val_call (vs := [.int .i64 ((l.length : Nat) : Int), .slice (some ⟨b1, 0, none⟩) 3 3]) rfl Try.fn14 rfl (fun w H => inside_b ((l.length : Nat) : Int) (recs_sz (xs := [((i : Nat) : Int), ((j : Nat) : Int), ((k : Nat) : Int)]) (H.at_ (k := 0) rfl) rfl))) ?_
  refine Gx.val rfl rfl rfl (val_not rfl rfl) ?_
  refine Gx.done ?_
  refine Gx.thenN ?_
  refine Gx.boolF rfl (by rw [insI_yes (by simp; omega)]; rfl) ?_
  refine Gx.skip ?_
  refine Gx.thenN ?_
  refine Gx.seq ?_
  refine Gx.seq ?_
  refine Gx.region ?_
  refine Gx.val rfl rfl rfl (val_move rfl rfl) ?_
  refine Gx.val rfl rfl rfl (Val.cast (val_neq rfl rfl rfl) (v' := .bool false) rfl) ?_
  refine Gx.val rfl rfl rfl (val_move rfl rfl) ?_
  refine Gx.valg rfl rfl rfl rfl rfl (val_move rfl rfl) ?_
  refine Gx.valg rfl rfl rfl rfl rfl (Val.cast (val_neq rfl rfl rfl) (v' := .bool false) rfl) ?_
  refine Gx.val rfl rfl rfl (val_pickF rfl rfl rfl) ?_
  refine Gx.val rfl rfl rfl (val_move rfl rfl) ?_
  refine Gx.valg rfl rfl rfl rfl rfl (val_move rfl rfl) ?_
  refine Gx.valg rfl rfl rfl rfl rfl (Val.cast (val_neq rfl rfl rfl) (v' := .bool false) rfl) ?_
  refine Gx.val rfl rfl rfl (val_pickF rfl rfl rfl) ?_
  refine Gx.val rfl rfl rfl (val_move rfl rfl) ?_
  refine Gx.valg rfl rfl rfl rfl rfl (val_move rfl rfl) ?_
  refine Gx.valg rfl rfl rfl rfl rfl (Val.cast (val_neq rfl rfl rfl) (v' := .bool false) rfl) ?_
  refine Gx.val rfl rfl rfl (val_pickF rfl rfl rfl) ?_
  refine Gx.val rfl rfl rfl (val_move rfl rfl) ?_
  refine Gx.valg rfl rfl rfl rfl rfl (val_move rfl rfl) ?_
  refine Gx.val rfl rfl rfl (val_pickF rfl rfl rfl) ?_
  refine Gx.done ?_
  refine Gx.thenN ?_
  refine Gx.boolF rfl (befB_same rfl) ?_
  refine Gx.skip ?_
  refine Gx.thenN ?_
  refine Gx.seq ?_
  refine Gx.regionQ Try.mixed (by kernel_rfl) ?_
  refine Gq.val rfl rfl rfl (val_move rfl rfl) ?_
  refine Gq.val rfl rfl rfl (val_not rfl rfl) ?_
  refine Gq.val rfl rfl rfl (val_move rfl rfl) ?_
  refine Gq.casesB (t := 92) rfl (fun h2 => ?_) (fun h2 => ?_)
  · refine Gq.skipg rfl rfl rfl rfl rfl rfl ?_
    refine Gq.skipg rfl rfl rfl rfl rfl rfl ?_
    refine Gq.skipg rfl rfl rfl rfl rfl rfl ?_
    refine Gq.val rfl rfl rfl (val_pickT rfl rfl rfl) ?_
    refine Gq.val rfl rfl rfl (val_move rfl rfl) ?_
    refine Gq.valg rfl rfl rfl rfl rfl (val_move rfl rfl) ?_
    refine Gq.valg rfl rfl rfl rfl rfl (val_not rfl rfl) ?_
    refine Gq.valg rfl rfl rfl rfl rfl (val_move rfl rfl) ?_
    refine Gq.slot (t := 100) (v := .bool true) (look_boolT rfl (h2)) ?_
    refine Gq.skipg rfl rfl rfl rfl rfl rfl ?_
    refine Gq.skipg rfl rfl rfl rfl rfl rfl ?_
    refine Gq.valg rfl rfl rfl rfl rfl (val_pickT rfl rfl rfl) ?_
    refine Gq.valg rfl rfl rfl rfl rfl (val_move rfl rfl) ?_
    refine Gq.skipg rfl rfl rfl rfl rfl rfl ?_
    refine Gq.valg rfl rfl rfl rfl rfl (val_pickT rfl rfl rfl) ?_
    refine Gq.val rfl rfl rfl (val_pickT rfl rfl rfl) ?_
    refine Gq.val rfl rfl rfl (val_move rfl rfl) ?_
    refine Gq.valg rfl rfl rfl rfl rfl (val_move rfl rfl) ?_
    refine Gq.valg rfl rfl rfl rfl rfl (val_move rfl rfl) ?_
    refine Gq.slot (t := 110) (v := .bool false) (look_boolF rfl (by simpa using h2)) ?_
    refine Gq.valg rfl rfl rfl rfl rfl (val_move rfl rfl) ?_
    refine Gq.valg rfl rfl rfl rfl rfl (val_move rfl rfl) ?_
    refine Gq.valg rfl rfl rfl rfl rfl (val_geq rfl rfl rfl) ?_
    refine Gq.valg rfl rfl rfl rfl rfl (val_pickF rfl rfl rfl) ?_
    refine Gq.valg rfl rfl rfl rfl rfl (val_move rfl rfl) ?_
    refine Gq.cases (t := 115) rfl (fun h3 => ?_) (fun h3 => ?_)
    · refine Gq.skipg rfl rfl rfl rfl rfl rfl ?_
      refine Gq.skipg rfl rfl rfl rfl rfl rfl ?_
      refine Gq.skipg rfl rfl rfl rfl rfl rfl ?_
      refine Gq.skipg rfl rfl rfl rfl rfl rfl ?_
      refine Gq.skipg rfl rfl rfl rfl rfl rfl ?_
      refine Gq.skipg rfl rfl rfl rfl rfl rfl ?_
      refine Gq.skipg rfl rfl rfl rfl rfl rfl ?_
      refine Gq.skipg rfl rfl rfl rfl rfl rfl ?_
      refine Gq.skipg rfl rfl rfl rfl rfl rfl ?_
      refine Gq.skipg rfl rfl rfl rfl rfl rfl ?_
      refine Gq.skipg rfl rfl rfl rfl rfl rfl ?_
      refine Gq.valg rfl rfl rfl rfl rfl (val_pickT rfl rfl rfl) ?_
      refine Gq.val rfl rfl rfl (val_pickT rfl rfl rfl) ?_
      refine Gq.val rfl rfl rfl (val_assign rfl rfl) ?_
      refine Gq.done ?_
      refine Gx.thenN ?_
      refine Gx.ret ?_
      refine Gx.ret1 Try.results6 rfl ?_
      rfl
    · refine Gq.valg rfl rfl rfl rfl rfl (val_move rfl rfl) ?_
      refine Gq.valg rfl rfl rfl rfl rfl (val_move rfl rfl) ?_
      obtain ⟨x4, hx4⟩ := get_of_lt (xs := l) (k := i) (by omega)
      refine Gq.valg rfl rfl rfl rfl rfl (val_ixa rfl Try.underlying22 Try.ty30 rfl rfl (j := i) (rfl) (reach_base hs hx4)) ?_
      refine Gq.valg rfl rfl rfl rfl rfl (Val.cast (val_fieldAddr rfl Try.underlying30 rfl Try.ty3 rfl rfl) (v' := ptr (sB v) (sO v + i * 3 + 1)) rfl) ?_
      refine Gq.valg rfl rfl rfl rfl rfl (val_load rfl Try.ty3 rfl rfl (cell_base (i := 1) hs hx4 rfl)) ?_
      refine Gq.valg rfl rfl rfl rfl rfl (val_move rfl rfl) ?_
      refine Gq.valg rfl rfl rfl rfl rfl (val_move rfl rfl) ?_
      obtain ⟨x5, hx5⟩ := get_of_lt (xs := l) (k := j) (by omega)
      refine Gq.valg rfl rfl rfl rfl rfl (val_ixa rfl Try.underlying22 Try.ty30 rfl rfl (j := j) (rfl) (reach_base hs hx5)) ?_
      refine Gq.valg rfl rfl rfl rfl rfl (Val.cast (val_fieldAddr rfl Try.underlying30 rfl Try.ty3 rfl rfl) (v' := ptr (sB v) (sO v + j * 3 + 1)) rfl) ?_
      refine Gq.valg rfl rfl rfl rfl rfl (val_load rfl Try.ty3 rfl rfl (cell_base (i := 1) hs hx5 rfl)) ?_
      refine Gq.valg rfl rfl rfl rfl rfl (val_neq rfl rfl rfl) ?_
      refine Gq.valg rfl rfl rfl rfl rfl (val_pickF rfl rfl rfl) ?_
      refine Gq.val rfl rfl rfl (val_pickT rfl rfl rfl) ?_
      refine Gq.val rfl rfl rfl (val_assign rfl rfl) ?_
      refine Gq.done ?_
      refine Gx.thenN ?_
      refine Gx.ret ?_
      refine Gx.ret1 Try.results6 rfl ?_
      exact congrArg Value.bool (decide_eq_true (fun q => (order hok hi hj hk).2.2 (by simpa using h2) (by omega) ((who_eq hok hx4 hx5).2 q)))
  · refine Gq.valg rfl rfl rfl rfl rfl (val_move rfl rfl) ?_
    refine Gq.valg rfl rfl rfl rfl rfl (val_move rfl rfl) ?_
    refine Gq.valg rfl rfl rfl rfl rfl (val_lss rfl rfl rfl) ?_
    refine Gq.val rfl rfl rfl (val_pickF rfl rfl rfl) ?_
    refine Gq.val rfl rfl rfl (val_move rfl rfl) ?_
    refine Gq.slot (t := 97) (v := .bool true) (look_decT rfl (by have q := (order hok hi hj hk).1 (by simpa using h2); omega)) ?_
    refine Gq.valg rfl rfl rfl rfl rfl (val_move rfl rfl) ?_
    refine Gq.valg rfl rfl rfl rfl rfl (val_not rfl rfl) ?_
    refine Gq.valg rfl rfl rfl rfl rfl (val_move rfl rfl) ?_
    refine Gq.slot (t := 100) (v := .bool false) (look_boolF rfl (h2)) ?_
    refine Gq.valg rfl rfl rfl rfl rfl (val_move rfl rfl) ?_
    refine Gq.valg rfl rfl rfl rfl rfl (val_not rfl rfl) ?_
    refine Gq.valg rfl rfl rfl rfl rfl (val_pickF rfl rfl rfl) ?_
    refine Gq.valg rfl rfl rfl rfl rfl (val_move rfl rfl) ?_
    refine Gq.casesB (t := 104) rfl (fun h6 => ?_) (fun h6 => ?_)
    · refine Gq.skipg rfl rfl rfl rfl rfl rfl ?_
      refine Gq.valg rfl rfl rfl rfl rfl (val_pickT rfl rfl rfl) ?_
      refine Gq.val rfl rfl rfl (val_pickT rfl rfl rfl) ?_
      refine Gq.val rfl rfl rfl (val_move rfl rfl) ?_
      refine Gq.valg rfl rfl rfl rfl rfl (val_move rfl rfl) ?_
      refine Gq.valg rfl rfl rfl rfl rfl (val_move rfl rfl) ?_
      refine Gq.slot (t := 110) (v := .bool true) (look_boolT rfl (by simpa using h2)) ?_
      refine Gq.skipg rfl rfl rfl rfl rfl rfl ?_
      refine Gq.skipg rfl rfl rfl rfl rfl rfl ?_
      refine Gq.skipg rfl rfl rfl rfl rfl rfl ?_
      refine Gq.valg rfl rfl rfl rfl rfl (val_pickT rfl rfl rfl) ?_
      refine Gq.valg rfl rfl rfl rfl rfl (val_move rfl rfl) ?_
      refine Gq.skipg rfl rfl rfl rfl rfl rfl ?_
      refine Gq.skipg rfl rfl rfl rfl rfl rfl ?_
      refine Gq.skipg rfl rfl rfl rfl rfl rfl ?_
      refine Gq.skipg rfl rfl rfl rfl rfl rfl ?_
      refine Gq.skipg rfl rfl rfl rfl rfl rfl ?_
      refine Gq.skipg rfl rfl rfl rfl rfl rfl ?_
      refine Gq.skipg rfl rfl rfl rfl rfl rfl ?_
      refine Gq.skipg rfl rfl rfl rfl rfl rfl ?_
      refine Gq.skipg rfl rfl rfl rfl rfl rfl ?_
      refine Gq.skipg rfl rfl rfl rfl rfl rfl ?_
      refine Gq.skipg rfl rfl rfl rfl rfl rfl ?_
      refine Gq.valg rfl rfl rfl rfl rfl (val_pickT rfl rfl rfl) ?_
      refine Gq.val rfl rfl rfl (val_pickT rfl rfl rfl) ?_
      refine Gq.val rfl rfl rfl (val_assign rfl rfl) ?_
      refine Gq.done ?_
      refine Gx.thenN ?_
      refine Gx.ret ?_
      refine Gx.ret1 Try.results6 rfl ?_
      rfl
    · refine Gq.valg rfl rfl rfl rfl rfl (val_move rfl rfl) ?_
      refine Gq.valg rfl rfl rfl rfl rfl (val_pickF rfl rfl rfl) ?_
      refine Gq.val rfl rfl rfl (val_pickT rfl rfl rfl) ?_
      refine Gq.val rfl rfl rfl (val_move rfl rfl) ?_
      refine Gq.slot (t := 108) (v := .bool true) (look_boolT rfl ((order hok hi hj hk).2.1 (by simpa using h2) (by simpa using h6))) ?_
      refine Gq.valg rfl rfl rfl rfl rfl (val_move rfl rfl) ?_
      refine Gq.valg rfl rfl rfl rfl rfl (val_move rfl rfl) ?_
      refine Gq.slot (t := 110) (v := .bool true) (look_boolT rfl (by simpa using h2)) ?_
      refine Gq.skipg rfl rfl rfl rfl rfl rfl ?_
      refine Gq.skipg rfl rfl rfl rfl rfl rfl ?_
      refine Gq.skipg rfl rfl rfl rfl rfl rfl ?_
      refine Gq.valg rfl rfl rfl rfl rfl (val_pickT rfl rfl rfl) ?_
      refine Gq.valg rfl rfl rfl rfl rfl (val_move rfl rfl) ?_
      refine Gq.skipg rfl rfl rfl rfl rfl rfl ?_
      refine Gq.skipg rfl rfl rfl rfl rfl rfl ?_
      refine Gq.skipg rfl rfl rfl rfl rfl rfl ?_
      refine Gq.skipg rfl rfl rfl rfl rfl rfl ?_
      refine Gq.skipg rfl rfl rfl rfl rfl rfl ?_
      refine Gq.skipg rfl rfl rfl rfl rfl rfl ?_
      refine Gq.skipg rfl rfl rfl rfl rfl rfl ?_
      refine Gq.skipg rfl rfl rfl rfl rfl rfl ?_
      refine Gq.skipg rfl rfl rfl rfl rfl rfl ?_
      refine Gq.skipg rfl rfl rfl rfl rfl rfl ?_
      refine Gq.skipg rfl rfl rfl rfl rfl rfl ?_
      refine Gq.valg rfl rfl rfl rfl rfl (val_pickT rfl rfl rfl) ?_
      refine Gq.val rfl rfl rfl (val_pickT rfl rfl rfl) ?_
      refine Gq.val rfl rfl rfl (val_assign rfl rfl) ?_
      refine Gq.done ?_
      refine Gx.thenN ?_
      refine Gx.ret ?_
      refine Gx.ret1 Try.results6 rfl ?_
      rfl

theorem order_any (n i j k : Int) (v : Value) (l : List Ev) (W : World) (hs : SlS FE 3 W v l) : Calls Try.prog 6 #[.int .i64 n, v, .int .i64 i, .int .i64 j, .int .i64 k] W fun e w' => e = .returned (.bool true) ∧ Below W.heap.size W w' := by
  by_cases hok : OkE n l
  · obtain ⟨m, rfl⟩ := Int.eq_ofNat_of_zero_le (show 0 ≤ n by have := hok.low; omega)
    by_cases hin : 0 ≤ i ∧ i < l.length ∧ 0 ≤ j ∧ j < l.length ∧ 0 ≤ k ∧ k < l.length
    · obtain ⟨a, rfl⟩ := Int.eq_ofNat_of_zero_le hin.1
      obtain ⟨b, rfl⟩ := Int.eq_ofNat_of_zero_le hin.2.2.1
      obtain ⟨c, rfl⟩ := Int.eq_ofNat_of_zero_le hin.2.2.2.2.1
      exact order_in m a b c hs hok (by omega) (by omega) (by omega)
    · refine order_out m i j k hs hok hin ?_
      cases e : insI l.length [i, j, k]
      · rfl
      · have := insI_iff.1 e; simp at this; omega
  · exact order_bad n i j k hs hok

end Go.Proofs.Ytehcefknofcmiaa
