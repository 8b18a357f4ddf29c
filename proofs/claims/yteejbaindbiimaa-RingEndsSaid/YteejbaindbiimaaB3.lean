/- When all came, one is chosen. The walks. No condition. -/
import Derived.Test.YteejbaindbiimaaB2
namespace Go.Proofs.Yteejbaindbiimaa
open Go.RowKit
set_option linter.unusedVariables false
set_option linter.unusedSimpArgs false
set_option maxRecDepth 100000

theorem nodup_snoc {names : List Int} {i : Nat} (h : (names.take i).Nodup) (hi : i < names.length) (hj : ∀ q, q < i → names[q]? ≠ names[i]?) : (names.take (i + 1)).Nodup := by
  obtain ⟨x, hx⟩ := get_of_lt hi
  rw [take_of hx, List.nodup_append]
  refine ⟨h, by simp, fun a ha b hb => ?_⟩
  rw [List.mem_singleton] at hb; subst hb
  rintro rfl
  obtain ⟨q, hq⟩ := List.getElem?_of_mem ha
  have hql := (List.getElem?_eq_some_iff.1 hq).1
  rw [List.length_take] at hql
  rw [List.getElem?_take, if_pos (by omega)] at hq
  exact hj q (by omega) (hq.trans hx.symm)
theorem check_any {W : World} {nv : Value} {names : List Int} {k : Nat} (hm : SlS SZ 1 W nv names) : Calls Try.prog 9 #[nv, .int .i64 ((k : Nat) : Int)] W fun e w' => ∃ v, e = .returned v ∧ (∃ z : Int, v = .int .i64 z ∧ (z = 0 → 1 ≤ names.length ∧ names.length ≤ 6 ∧ names.Nodup)) ∧ Below W.heap.size W w' := by
  have m1 := sls_bd hm
  refine calls_some (S := fun v l => ∃ z : Int, v = .int .i64 z ∧ (z = 0 → 1 ≤ names.length ∧ names.length ≤ 6 ∧ names.Nodup)) (Gx.enter (l := []) Try.func9 rfl Try.ntmps9 rfl (Sat.start W) ?_) ?_
  refine Gx.know (m' := [(0, nv), (1, .int .i64 ((k : Nat) : Int))]) (.cons rfl (.cons rfl .nil)) ?_
  refine Gx.seq ?_
  refine Gx.region ?_
  refine Gx.val rfl rfl rfl (val_assign rfl rfl) ?_
  refine Gx.done ?_
  refine Gx.thenN ?_
  refine Gx.seq ?_
  refine Gx.seq ?_
  refine Gx.region ?_
  refine Gx.val rfl rfl rfl (val_move rfl rfl) ?_
  refine Gx.val rfl rfl rfl (val_len rfl Try.underlying22 rfl (len_base hm)) ?_
  refine Gx.val rfl rfl rfl (val_eql rfl rfl rfl) ?_
  refine Gx.val rfl rfl rfl (val_move rfl rfl) ?_
  refine Gx.cases (t := 10) rfl (fun h1 => ?_) (fun h1 => ?_)
  · refine Gx.skipg rfl rfl rfl rfl rfl rfl ?_
    refine Gx.skipg rfl rfl rfl rfl rfl rfl ?_
    refine Gx.skipg rfl rfl rfl rfl rfl rfl ?_
    refine Gx.val rfl rfl rfl (val_pickT rfl rfl rfl) ?_
    refine Gx.val rfl rfl rfl (val_move rfl rfl) ?_
    refine Gx.skipg rfl rfl rfl rfl rfl rfl ?_
    refine Gx.skipg rfl rfl rfl rfl rfl rfl ?_
    refine Gx.val rfl rfl rfl (val_pickT rfl rfl rfl) ?_
    refine Gx.done ?_
    refine Gx.thenN ?_
    refine Gx.t rfl ?_
    refine Gx.seq ?_
    refine Gx.region ?_
    refine Gx.val rfl rfl rfl (val_assign rfl rfl) ?_
    refine Gx.done ?_
    refine Gx.thenN ?_
    refine Gx.ret ?_
    refine Gx.thenR ?_
    refine Gx.ret1 Try.results9 rfl ?_
    exact ⟨_, rfl, fun h => by omega⟩
  · refine Gx.valg rfl rfl rfl rfl rfl (val_move rfl rfl) ?_
    refine Gx.valg rfl rfl rfl rfl rfl (val_len rfl Try.underlying22 rfl (len_base hm)) ?_
    refine Gx.valg rfl rfl rfl rfl rfl (val_gtr rfl rfl rfl) ?_
    refine Gx.val rfl rfl rfl (val_pickF rfl rfl rfl) ?_
    refine Gx.val rfl rfl rfl (val_move rfl rfl) ?_
    refine Gx.cases (t := 15) rfl (fun h2 => ?_) (fun h2 => ?_)
    · refine Gx.skipg rfl rfl rfl rfl rfl rfl ?_
      refine Gx.skipg rfl rfl rfl rfl rfl rfl ?_
      refine Gx.val rfl rfl rfl (val_pickT rfl rfl rfl) ?_
      refine Gx.done ?_
      refine Gx.thenN ?_
      refine Gx.t rfl ?_
      refine Gx.seq ?_
      refine Gx.region ?_
      refine Gx.val rfl rfl rfl (val_assign rfl rfl) ?_
      refine Gx.done ?_
      refine Gx.thenN ?_
      refine Gx.ret ?_
      refine Gx.thenR ?_
      refine Gx.ret1 Try.results9 rfl ?_
      exact ⟨_, rfl, fun h => by omega⟩
    · refine Gx.valg rfl rfl rfl rfl rfl (val_move rfl rfl) ?_
      refine Gx.valg rfl rfl rfl rfl rfl (val_gtr rfl rfl rfl) ?_
      refine Gx.val rfl rfl rfl (val_pickF rfl rfl rfl) ?_
      refine Gx.done ?_
      refine Gx.thenN ?_
      refine Gx.dec rfl (fun h3 => ?_) (fun h3 => ?_)
      · refine Gx.seq ?_
        refine Gx.region ?_
        refine Gx.val rfl rfl rfl (val_assign rfl rfl) ?_
        refine Gx.done ?_
        refine Gx.thenN ?_
        refine Gx.ret ?_
        refine Gx.thenR ?_
        refine Gx.ret1 Try.results9 rfl ?_
        exact ⟨_, rfl, fun h => by omega⟩
      · refine Gx.skip ?_
        refine Gx.thenN ?_
        refine Gx.seq ?_
        refine Gx.seq ?_
        refine Gx.region ?_
        refine Gx.val rfl rfl rfl (val_assign rfl rfl) ?_
        refine Gx.done ?_
        refine Gx.thenN ?_
        refine Gx.block ?_
        refine Gx.loop (ι := Nat) (fun ξ => (ξ ≤ names.length) ∧ ((names.take ξ).Nodup)) (fun ξ => [(0, nv), (1, .int .i64 ((k : Nat) : Int)), (5, .int .i64 ((ξ : Nat) : Int))]) (fun ξ => []) (fun ξ => names.length - ξ) 0 ⟨by first | omega | (dsimp only; omega), by simp⟩ ((.cons rfl (.cons rfl (.cons rfl .nil)))) rfl ?_
        rintro i ⟨hi, hd⟩
        refine Gx.know (m' := [(0, nv), (1, .int .i64 ((k : Nat) : Int)), (5, .int .i64 ((i : Nat) : Int))]) (.cons rfl (.cons rfl (.cons rfl .nil))) (Gx.norm (l' := []) rfl ?_)
        refine Gx.seq ?_
        refine Gx.seq ?_
        refine Gx.region ?_
        refine Gx.val rfl rfl rfl (val_move rfl rfl) ?_
        refine Gx.val rfl rfl rfl (val_move rfl rfl) ?_
        refine Gx.val rfl rfl rfl (val_len rfl Try.underlying22 rfl (len_base hm)) ?_
        refine Gx.val rfl rfl rfl (val_lss rfl rfl rfl) ?_
        refine Gx.done ?_
        refine Gx.thenN ?_
        refine Gx.dec rfl (fun h4 => ?_) (fun h4 => ?_)
        · refine Gx.skip ?_
          refine Gx.thenN ?_
          refine Gx.seq ?_
          refine Gx.block ?_
          refine Gx.seq ?_
          refine Gx.region ?_
          refine Gx.val rfl rfl rfl (val_assign rfl rfl) ?_
          refine Gx.done ?_
          refine Gx.thenN ?_
          refine Gx.block ?_
          refine Gx.loop (ι := Nat) (fun ξ => (ξ ≤ i) ∧ (∀ q, q < ξ → names[q]? ≠ names[i]?)) (fun ξ => [(0, nv), (1, .int .i64 ((k : Nat) : Int)), (5, .int .i64 ((i : Nat) : Int)), (6, .int .i64 ((ξ : Nat) : Int))]) (fun ξ => []) (fun ξ => i - ξ) 0 ⟨by first | omega | (dsimp only; omega), fun q hq => by omega⟩ ((.cons rfl (.cons rfl (.cons rfl (.cons rfl .nil))))) rfl ?_
          rintro j ⟨hj, hj2⟩
          refine Gx.know (m' := [(0, nv), (1, .int .i64 ((k : Nat) : Int)), (5, .int .i64 ((i : Nat) : Int)), (6, .int .i64 ((j : Nat) : Int))]) (.cons rfl (.cons rfl (.cons rfl (.cons rfl .nil)))) (Gx.norm (l' := []) rfl ?_)
          refine Gx.seq ?_
          refine Gx.seq ?_
          refine Gx.region ?_
          refine Gx.val rfl rfl rfl (val_move rfl rfl) ?_
          refine Gx.val rfl rfl rfl (val_move rfl rfl) ?_
          refine Gx.val rfl rfl rfl (val_lss rfl rfl rfl) ?_
          refine Gx.done ?_
          refine Gx.thenN ?_
          refine Gx.dec rfl (fun h5 => ?_) (fun h5 => ?_)
          · refine Gx.skip ?_
            refine Gx.thenN ?_
            refine Gx.seq ?_
            refine Gx.block ?_
            refine Gx.seq ?_
            refine Gx.regionQ Try.mixed (by kernel_rfl) ?_
            refine Gq.val rfl rfl rfl (val_move rfl rfl) ?_
            refine Gq.val rfl rfl rfl (val_move rfl rfl) ?_
            obtain ⟨x6, hx6⟩ := get_of_lt (xs := names) (k := i) (by omega)
            refine Gq.val rfl rfl rfl (val_ixa rfl Try.underlying22 Try.ty3 rfl rfl (j := i) (rfl) (reach_base hm hx6)) ?_
            refine Gq.val rfl rfl rfl (val_load rfl Try.ty3 rfl rfl (cell_base (i := 0) hm hx6 rfl)) ?_
            refine Gq.val rfl rfl rfl (val_move rfl rfl) ?_
            refine Gq.val rfl rfl rfl (val_move rfl rfl) ?_
            obtain ⟨x7, hx7⟩ := get_of_lt (xs := names) (k := j) (by omega)
            refine Gq.val rfl rfl rfl (val_ixa rfl Try.underlying22 Try.ty3 rfl rfl (j := j) (rfl) (reach_base hm hx7)) ?_
            refine Gq.val rfl rfl rfl (val_load rfl Try.ty3 rfl rfl (cell_base (i := 0) hm hx7 rfl)) ?_
            refine Gq.val rfl rfl rfl (val_eql rfl rfl rfl) ?_
            refine Gq.done ?_
            refine Gx.thenN ?_
            refine Gx.dec rfl (fun h8 => ?_) (fun h8 => ?_)
            · refine Gx.seq ?_
              refine Gx.region ?_
              refine Gx.val rfl rfl rfl (val_assign rfl rfl) ?_
              refine Gx.done ?_
              refine Gx.thenN ?_
              refine Gx.ret ?_
              refine Gx.blkR ?_
              refine Gx.thenR ?_
              refine Gx.thenR ?_
              refine Gx.blkR ?_
              refine Gx.blkR ?_
              refine Gx.thenR ?_
              refine Gx.thenR ?_
              refine Gx.blkR ?_
              refine Gx.thenR ?_
              refine Gx.ret1 Try.results9 rfl ?_
              exact ⟨_, rfl, fun h => by omega⟩
            · refine Gx.skip ?_
              refine Gx.blkN ?_
              refine Gx.thenN ?_
              refine Gx.region ?_
              refine Gx.val rfl rfl rfl (val_move rfl rfl) ?_
              refine Gx.val rfl rfl rfl (val_add rfl rfl rfl (r := ((j + 1 : Nat) : Int)) (w64 (by omega) (by omega))) ?_
              refine Gx.val rfl rfl rfl (val_assign rfl rfl) ?_
              refine Gx.done ?_
              refine Gx.thenN ?_
              exact Gx.round (j + 1) ⟨by first | omega | (dsimp only; omega), fun q hq => by rcases Nat.lt_or_eq_of_le (Nat.le_of_lt_succ hq) with h | rfl; (exact hj2 q h); (rw [hx7, hx6]; intro h9; cases h9; simp_all)⟩ (by first | omega | (dsimp only; omega)) ((.cons rfl (.cons rfl (.cons rfl (.cons rfl .nil))))) rfl
          · refine Gx.exit ?_
            refine Gx.thenE ?_
            refine Gx.thenE ?_
            refine Gx.blkE ?_
            refine Gx.blkN ?_
            refine Gx.thenN ?_
            refine Gx.region ?_
            refine Gx.val rfl rfl rfl (val_move rfl rfl) ?_
            refine Gx.val rfl rfl rfl (val_add rfl rfl rfl (r := ((i + 1 : Nat) : Int)) (w64 (by omega) (by omega))) ?_
            refine Gx.val rfl rfl rfl (val_assign rfl rfl) ?_
            refine Gx.done ?_
            refine Gx.thenN ?_
            exact Gx.round (i + 1) ⟨by first | omega | (dsimp only; omega), nodup_snoc hd (by omega) (fun q hq => hj2 q (by omega))⟩ (by first | omega | (dsimp only; omega)) ((.cons rfl (.cons rfl (.cons rfl .nil)))) rfl
        · refine Gx.exit ?_
          refine Gx.thenE ?_
          refine Gx.thenE ?_
          refine Gx.blkE ?_
          refine Gx.thenN ?_
          refine Gx.seq ?_
          refine Gx.region ?_
          refine Gx.val rfl rfl rfl (val_assign rfl rfl) ?_
          refine Gx.done ?_
          refine Gx.thenN ?_
          refine Gx.ret ?_
          refine Gx.ret1 Try.results9 rfl ?_
          obtain rfl : i = names.length := by omega
          rw [List.take_length] at hd
          exact ⟨0, rfl, fun _ => ⟨by omega, by omega, hd⟩⟩
  rintro v l w ⟨z, h1, h2⟩ H
  exact ⟨z, h1, h2⟩

theorem ends_any {W : World} {nv sv : Value} {names : List Int} {cs : List Mv} (hm : SlS SZ 1 W nv names) (hs : SlS FM 2 W sv cs) :
    Calls Try.prog 5 #[nv, sv] W fun e w' => e = .returned (.bool true) ∧ Below W.heap.size W w' := by
  have m1 := sls_bd hm
  have m2 := sls_bd hs
  refine calls_pure (Gx.enter (l := []) Try.func5 rfl Try.ntmps5 rfl (Sat.start W) ?_)
  refine Gx.know (m' := [(0, nv), (1, sv)]) (.cons rfl (.cons rfl .nil)) ?_
  refine Gx.seq ?_
  refine Gx.region ?_
  refine Gx.val rfl rfl rfl (val_assign rfl rfl) ?_
  refine Gx.done ?_
  refine Gx.thenN ?_
  refine Gx.seq ?_
  refine Gx.region ?_
  refine Gx.val rfl rfl rfl (val_move rfl rfl) ?_
  refine Gx.val rfl rfl rfl (val_len rfl Try.underlying22 rfl (len_base hm)) ?_
  refine Gx.val rfl rfl rfl (val_assign rfl rfl) ?_
  refine Gx.done ?_
  refine Gx.thenN ?_
  refine Gx.seq ?_
  refine Gx.seq ?_
  refine Gx.region ?_
  refine Gx.val rfl rfl rfl (val_move rfl rfl) ?_
  refine Gx.val rfl rfl rfl (val_move rfl rfl) ?_
  refine Gx.val rfl rfl rfl (val_len rfl Try.underlying23 rfl (len_base hs)) ?_
  refine Gx.eff rfl rfl rfl (eff_callE (vs := [nv, .int .i64 ((cs.length : Nat) : Int)]) rfl Try.fn9 rfl (R := fun v => ∃ z : Int, v = .int .i64 z ∧ (z = 0 → 1 ≤ names.length ∧ names.length ≤ 6 ∧ names.Nodup)) (fun w H => check_any (hm.below H.below))) ?_
  rintro _ _ ⟨⟨zc1, rfl, hzc2⟩, rfl⟩
  refine Gx.val rfl rfl rfl (val_neq rfl rfl rfl) ?_
  refine Gx.val rfl rfl rfl (val_move rfl rfl) ?_
  refine Gx.cases (t := 18) rfl (fun h3 => ?_) (fun h3 => ?_)
  · refine Gx.skipg rfl rfl rfl rfl rfl rfl ?_
    refine Gx.skipg rfl rfl rfl rfl rfl rfl ?_
    refine Gx.val rfl rfl rfl (val_pickT rfl rfl rfl) ?_
    refine Gx.val rfl rfl rfl (val_move rfl rfl) ?_
    refine Gx.skipg rfl rfl rfl rfl rfl rfl ?_
    refine Gx.skipg rfl rfl rfl rfl rfl rfl ?_
    refine Gx.skipg rfl rfl rfl rfl rfl rfl ?_
    refine Gx.val rfl rfl rfl (val_pickT rfl rfl rfl) ?_
    refine Gx.done ?_
    refine Gx.thenN ?_
    refine Gx.t rfl ?_
    refine Gx.seq ?_
    refine Gx.region ?_
    refine Gx.val rfl rfl rfl (val_assign rfl rfl) ?_
    refine Gx.done ?_
    refine Gx.thenN ?_
    refine Gx.ret ?_
    refine Gx.thenR ?_
    refine Gx.ret1 Try.results5 rfl ?_
    first | rfl | exact congrArg Value.bool (decide_eq_true (by omega))
  · refine Gx.valg rfl rfl rfl rfl rfl (val_move rfl rfl) ?_
    refine Gx.valg rfl rfl rfl rfl rfl (val_gtr rfl rfl rfl) ?_
    refine Gx.val rfl rfl rfl (val_pickF rfl rfl rfl) ?_
    refine Gx.val rfl rfl rfl (val_move rfl rfl) ?_
    refine Gx.cases (t := 22) rfl (fun h4 => ?_) (fun h4 => ?_)
    · refine Gx.skipg rfl rfl rfl rfl rfl rfl ?_
      refine Gx.skipg rfl rfl rfl rfl rfl rfl ?_
      refine Gx.skipg rfl rfl rfl rfl rfl rfl ?_
      refine Gx.val rfl rfl rfl (val_pickT rfl rfl rfl) ?_
      refine Gx.done ?_
      refine Gx.thenN ?_
      refine Gx.t rfl ?_
      refine Gx.seq ?_
      refine Gx.region ?_
      refine Gx.val rfl rfl rfl (val_assign rfl rfl) ?_
      refine Gx.done ?_
      refine Gx.thenN ?_
      refine Gx.ret ?_
      refine Gx.thenR ?_
      refine Gx.ret1 Try.results5 rfl ?_
      first | rfl | exact congrArg Value.bool (decide_eq_true (by omega))
    · refine Gx.valg rfl rfl rfl rfl rfl (val_move rfl rfl) ?_
      refine Gx.valg rfl rfl rfl rfl rfl (val_len rfl Try.underlying23 rfl (len_base hs)) ?_
      refine Gx.valg rfl rfl rfl rfl rfl (val_gtr rfl rfl rfl) ?_
      refine Gx.val rfl rfl rfl (val_pickF rfl rfl rfl) ?_
      refine Gx.done ?_
      refine Gx.thenN ?_
      refine Gx.dec rfl (fun h5 => ?_) (fun h5 => ?_)
      · refine Gx.seq ?_
        refine Gx.region ?_
        refine Gx.val rfl rfl rfl (val_assign rfl rfl) ?_
        refine Gx.done ?_
        refine Gx.thenN ?_
        refine Gx.ret ?_
        refine Gx.thenR ?_
        refine Gx.ret1 Try.results5 rfl ?_
        first | rfl | exact congrArg Value.bool (decide_eq_true (by omega))
      · refine Gx.skip ?_
        refine Gx.thenN ?_
        refine Gx.seq ?_
        obtain ⟨h1n, h6n, hnd⟩ := hzc2 (by omega)
        have hmm : names.length * (names.length + 1) ≤ 4 * 5 := Nat.mul_le_mul (by omega) (by omega)
        obtain ⟨KK, hKK⟩ : ∃ q, q = (names.length * (names.length + 1) / 2) := ⟨_, rfl⟩
        have hK10 : KK ≤ 10 := by omega
        refine Gx.region ?_
        refine Gx.eff rfl rfl rfl (eff_buildNil (f := FM) (sz := 2) (e := 34) rfl Try.underlying23 (fun w => by first | (go_simp; done) | (go_simp; rfl))) ?_
        rintro v6 _ ⟨hiv6, rfl⟩
        refine Gx.val rfl rfl rfl (val_move rfl rfl) ?_
        refine Gx.eff rfl rfl rfl (eff_pushAll (k := 0) (ys := cs) rfl Try.eM FM_len FM_one rfl rfl (fun w H => hs.below H.below) rfl (by first | omega | (simp; omega)) (by first | omega | (simp; omega))) ?_
        rintro v7 _ ⟨hiv7, rfl⟩
        refine Gx.norm (l' := [Hp.own FM 2 v7 cs]) rfl ?_
        refine Gx.val rfl rfl rfl (val_build rfl (qs := [(0, .int .i64 1)]) rfl rfl (fun w => by go_simp) (v := .agg #[.int .i64 1, .int .i64 0])) ?_
        refine Gx.eff rfl rfl rfl (eff_buildSlice rfl (qs := [(0, .agg #[.int .i64 1, .int .i64 0])]) rfl rfl (cs := #[.int .i64 1, .int .i64 0]) (vs := [.int .i64 1, .int .i64 0]) (E := 34) rfl (fun w => by first | (go_simp; done) | (go_simp; rfl))) ?_
        rintro _ _ ⟨b8, rfl, rfl⟩
        refine Gx.eff rfl rfl rfl (eff_push (r := (mv 1 0)) rfl Try.eM FM_len FM_one rfl rfl (k := 0) rfl rfl (k' := 0) rfl (by first | omega | (simp; omega)) (by first | omega | (simp; omega))) ?_
        rintro v9 _ ⟨hiv9, rfl⟩
        refine Gx.norm (l' := [Hp.own FM 2 v9 (cs ++ [(mv 1 0)])]) rfl ?_
        refine Gx.val rfl rfl rfl (val_assign rfl rfl) ?_
        refine Gx.done ?_
        refine Gx.thenN ?_
        refine Gx.seq ?_
        refine Gx.seq ?_
        refine Gx.region ?_
        refine Gx.val rfl rfl rfl (val_assign rfl rfl) ?_
        refine Gx.done ?_
        refine Gx.thenN ?_
        refine Gx.block ?_
        refine Gx.norm (l' := [Hp.own FM 2 v9 (cs ++ [mv 1 0] ++ rowsR names.length 0)]) (by rw [show rowsR names.length 0 = [] from rfl, List.append_nil] <;> rfl) ?_
        refine Gx.loop (ι := Nat × Value) (fun ξ => (ξ.1 ≤ KK) ∧ (IsS ξ.2)) (fun ξ => [(0, nv), (5, .int .i64 ((names.length : Nat) : Int)), (7, .int .i64 ((ξ.1 : Nat) : Int)), (6, ξ.2)]) (fun ξ => [Hp.own FM 2 ξ.2 (cs ++ [mv 1 0] ++ rowsR names.length ξ.1)]) (fun ξ => KK - ξ.1) (0, v9) ⟨by first | omega | (dsimp only; omega), hiv9⟩ ((.cons rfl (.cons rfl (.cons rfl (.cons rfl .nil))))) rfl ?_
        rintro ⟨t9, av⟩ ⟨ht, hia⟩
        dsimp only at ht hia
        refine Gx.know (m' := [(0, nv), (5, .int .i64 ((names.length : Nat) : Int)), (7, .int .i64 ((t9 : Nat) : Int)), (6, av)]) (.cons rfl (.cons rfl (.cons rfl (.cons rfl .nil)))) (Gx.norm (l' := [Hp.own FM 2 av (cs ++ [mv 1 0] ++ rowsR names.length t9)]) rfl ?_)
        refine Gx.seq ?_
        refine Gx.seq ?_
        refine Gx.region ?_
        refine Gx.val rfl rfl rfl (val_move rfl rfl) ?_
        refine Gx.val rfl rfl rfl (val_move rfl rfl) ?_
        refine Gx.val rfl rfl rfl (val_move rfl rfl) ?_
        refine Gx.val rfl rfl rfl (val_add rfl rfl rfl (r := ((names.length + 1 : Nat) : Int)) (w64 (by omega) (by omega))) ?_
        refine Gx.val rfl rfl rfl (val_mul rfl rfl rfl (r := ((names.length * (names.length + 1) : Nat) : Int)) (w64 (by omega) (by omega))) ?_
        refine Gx.val rfl rfl rfl (val_quo rfl rfl rfl (r := ((KK : Nat) : Int)) (by omega) (w64 (by rw [Int.tdiv_eq_ediv_of_nonneg (by omega)]; omega) (by omega))) ?_
        refine Gx.val rfl rfl rfl (val_lss rfl rfl rfl) ?_
        refine Gx.done ?_
        refine Gx.thenN ?_
        refine Gx.dec rfl (fun h10 => ?_) (fun h10 => ?_)
        · refine Gx.skip ?_
          refine Gx.thenN ?_
          refine Gx.seq ?_
          refine Gx.block ?_
          refine Gx.seq ?_
          refine Gx.region ?_
          refine Gx.val rfl rfl rfl (val_assign rfl rfl) ?_
          refine Gx.done ?_
          refine Gx.thenN ?_
          refine Gx.block ?_
          refine Gx.norm (l' := [Hp.own FM 2 av (cs ++ [mv 1 0] ++ rowsR names.length t9 ++ rowR 0)]) (by rw [show rowR 0 = [] from rfl, List.append_nil] <;> rfl) ?_
          refine Gx.loop (ι := Nat × Value) (fun ξ => (ξ.1 ≤ names.length) ∧ (IsS ξ.2)) (fun ξ => [(0, nv), (5, .int .i64 ((names.length : Nat) : Int)), (7, .int .i64 ((t9 : Nat) : Int)), (8, .int .i64 ((ξ.1 : Nat) : Int)), (6, ξ.2)]) (fun ξ => [Hp.own FM 2 ξ.2 (cs ++ [mv 1 0] ++ rowsR names.length t9 ++ rowR ξ.1)]) (fun ξ => names.length - ξ.1) (0, av) ⟨by first | omega | (dsimp only; omega), hia⟩ ((.cons rfl (.cons rfl (.cons rfl (.cons rfl (.cons rfl .nil)))))) rfl ?_
          rintro ⟨i9, aw⟩ ⟨hi9, hib⟩
          dsimp only at hi9 hib
          refine Gx.know (m' := [(0, nv), (5, .int .i64 ((names.length : Nat) : Int)), (7, .int .i64 ((t9 : Nat) : Int)), (8, .int .i64 ((i9 : Nat) : Int)), (6, aw)]) (.cons rfl (.cons rfl (.cons rfl (.cons rfl (.cons rfl .nil))))) (Gx.norm (l' := [Hp.own FM 2 aw (cs ++ [mv 1 0] ++ rowsR names.length t9 ++ rowR i9)]) rfl ?_)
          have hln : (cs ++ [mv 1 0] ++ rowsR names.length t9 ++ rowR i9).length ≤ 200 := by
            have h2 : names.length * t9 ≤ 4 * 10 := Nat.mul_le_mul (by omega) (by omega)
            simp only [List.length_append, rowsR_len, rowR_len, List.length_singleton]; omega
          refine Gx.seq ?_
          refine Gx.seq ?_
          refine Gx.region ?_
          refine Gx.val rfl rfl rfl (val_move rfl rfl) ?_
          refine Gx.val rfl rfl rfl (val_move rfl rfl) ?_
          refine Gx.val rfl rfl rfl (val_lss rfl rfl rfl) ?_
          refine Gx.done ?_
          refine Gx.thenN ?_
          refine Gx.dec rfl (fun h11 => ?_) (fun h11 => ?_)
          · refine Gx.skip ?_
            refine Gx.thenN ?_
            refine Gx.seq ?_
            refine Gx.block ?_
            refine Gx.region ?_
            refine Gx.val rfl rfl rfl (val_move rfl rfl) ?_
            refine Gx.val rfl rfl rfl (val_move rfl rfl) ?_
            refine Gx.val rfl rfl rfl (val_build rfl (qs := [(0, .int .i64 2), (1, .int .i64 ((i9 : Nat) : Int))]) rfl rfl (fun w => by go_simp) (v := .agg #[.int .i64 2, .int .i64 ((i9 : Nat) : Int)])) ?_
            refine Gx.eff rfl rfl rfl (eff_buildSlice rfl (qs := [(0, .agg #[.int .i64 2, .int .i64 ((i9 : Nat) : Int)])]) rfl rfl (cs := #[.int .i64 2, .int .i64 ((i9 : Nat) : Int)]) (vs := [.int .i64 2, .int .i64 ((i9 : Nat) : Int)]) (E := 34) rfl (fun w => by first | (go_simp; done) | (go_simp; rfl))) ?_
            rintro _ _ ⟨b12, rfl, rfl⟩
            refine Gx.eff rfl rfl rfl (eff_push (r := (mv 2 i9)) rfl Try.eM FM_len FM_one rfl rfl (k := 0) rfl rfl (k' := 0) rfl (by omega) (by omega)) ?_
            rintro v13 _ ⟨hiv13, rfl⟩
            refine Gx.norm (l' := [Hp.own FM 2 v13 ((cs ++ [mv 1 0] ++ rowsR names.length t9 ++ rowR i9) ++ [(mv 2 i9)])]) rfl ?_
            refine Gx.val rfl rfl rfl (val_assign rfl rfl) ?_
            refine Gx.done ?_
            refine Gx.blkN ?_
            refine Gx.thenN ?_
            refine Gx.region ?_
            refine Gx.val rfl rfl rfl (val_move rfl rfl) ?_
            refine Gx.val rfl rfl rfl (val_add rfl rfl rfl (r := ((i9 + 1 : Nat) : Int)) (w64 (by omega) (by omega))) ?_
            refine Gx.val rfl rfl rfl (val_assign rfl rfl) ?_
            refine Gx.done ?_
            refine Gx.thenN ?_
            refine Gx.norm (l' := [Hp.own FM 2 v13 (cs ++ [mv 1 0] ++ rowsR names.length t9 ++ rowR (i9 + 1))]) (by rw [rowR_succ, ← List.append_assoc] <;> rfl) ?_
            exact Gx.round (i9 + 1, v13) ⟨by first | omega | (dsimp only; omega), hiv13⟩ (by first | omega | (dsimp only; omega)) ((.cons rfl (.cons rfl (.cons rfl (.cons rfl (.cons rfl .nil)))))) rfl
          · refine Gx.exit ?_
            refine Gx.thenE ?_
            refine Gx.thenE ?_
            refine Gx.blkE ?_
            refine Gx.blkN ?_
            refine Gx.thenN ?_
            refine Gx.region ?_
            refine Gx.val rfl rfl rfl (val_move rfl rfl) ?_
            refine Gx.val rfl rfl rfl (val_add rfl rfl rfl (r := ((t9 + 1 : Nat) : Int)) (w64 (by omega) (by omega))) ?_
            refine Gx.val rfl rfl rfl (val_assign rfl rfl) ?_
            refine Gx.done ?_
            refine Gx.thenN ?_
            refine Gx.norm (l' := [Hp.own FM 2 aw (cs ++ [mv 1 0] ++ rowsR names.length (t9 + 1))]) (by rw [show rowsR names.length (t9 + 1) = rowsR names.length t9 ++ rowR names.length from rfl, ← List.append_assoc, show i9 = names.length from by omega] <;> rfl) ?_
            exact Gx.round (t9 + 1, aw) ⟨by first | omega | (dsimp only; omega), hib⟩ (by first | omega | (dsimp only; omega)) ((.cons rfl (.cons rfl (.cons rfl (.cons rfl .nil))))) rfl
        · refine Gx.exit ?_
          refine Gx.thenE ?_
          refine Gx.thenE ?_
          refine Gx.blkE ?_
          refine Gx.thenN ?_
          refine Gx.seq ?_
          obtain rfl : t9 = KK := by omega
          have hal : (cs ++ [mv 1 0] ++ rowsR names.length t9).length ≤ 120 := by
            have h2 : names.length * t9 ≤ 4 * 10 := Nat.mul_le_mul (by omega) (by omega)
            simp only [List.length_append, rowsR_len, List.length_singleton]; omega
          obtain ⟨hq0, c9, hce, hc1, hc2⟩ := ends_run (cs := cs) h1n hnd t9 hKK
          have hgr := great_is hc1 hc2
          have hchl : (stR (rs0 names) (cs ++ [mv 1 0] ++ rowsR names.length t9)).ch.length = 1 := by rw [hce]; rfl
          have hc0 : (stR (rs0 names) (cs ++ [mv 1 0] ++ rowsR names.length t9)).ch[0]? = some c9 := by rw [hce]; rfl
          have haw : awayR (stR (rs0 names) (cs ++ [mv 1 0] ++ rowsR names.length t9)).ss names.length = 0 := by
            have h3 := away_sum (stR (rs0 names) (cs ++ [mv 1 0] ++ rowsR names.length t9)).ss
            rw [stR_len, show (rs0 names).ss.length = names.length from by simp [rs0]] at h3
            rw [h3]; exact hq0
          refine Gx.region ?_
          refine Gx.val rfl rfl rfl (val_move rfl rfl) ?_
          refine Gx.val rfl rfl rfl (val_move rfl rfl) ?_
          refine Gx.callB rfl rfl rfl (vs := [nv, av]) rfl Try.fn7 rfl (R := fun v w' => ∃ (cv chv : Value), v = .tuple #[.agg #[cv, chv, .int .i64 (((stR (rs0 names) (cs ++ [mv 1 0] ++ rowsR names.length t9)).sent : Nat) : Int), .int .i64 ((awayR (stR (rs0 names) (cs ++ [mv 1 0] ++ rowsR names.length t9)).ss names.length : Nat) : Int)], .int .i64 0] ∧ SlS FZ 1 w' cv (codesR (rs0 names) (cs ++ [mv 1 0] ++ rowsR names.length t9)) ∧ SlS FN 1 w' chv (stR (rs0 names) (cs ++ [mv 1 0] ++ rowsR names.length t9)).ch) (fun w H => play_ok (hm.below H.below) ((H.at_ (k := 0) rfl).sls (by first | omega | (simp; omega))) h1n h6n (hal) hnd) ?_
          rintro _ W16 ⟨cv14, dv15, rfl, hcv14, hdv15⟩ H17
          have hW18 := H17.below
          have hs19 := hm.below H17.below
          have hs20 := hs.below H17.below
          have hs21 := (H17.at_ (k := 0) rfl).sls (by first | omega | (simp; omega))
          have hclcv14 : (codesR (rs0 names) (cs ++ [mv 1 0] ++ rowsR names.length t9)).length = ((cs ++ [mv 1 0] ++ rowsR names.length t9)).length := codesR_len ..
          obtain ⟨sa22, sn23, sc24, rfl⟩ := hcv14.isS
          obtain ⟨sa25, sn26, sc27, rfl⟩ := hdv15.isS
          refine Gx.val rfl rfl rfl (val_move rfl rfl) ?_
          refine Gx.val rfl rfl rfl (val_extract rfl rfl rfl) ?_
          refine Gx.val rfl rfl rfl (val_extract rfl rfl rfl) ?_
          refine Gx.eff rfl rfl rfl (eff_alloc rfl Try.ty26 (vs := [.slice none 0 0, .slice none 0 0, .int .i64 0, .int .i64 0]) rfl) ?_
          rintro _ _ ⟨b28, rfl, rfl⟩
          refine Gx.eff0 rfl rfl (eff_store rfl Try.ty26 rfl rfl (us := [.slice sa22 sn23 sc24, .slice sa25 sn26 sc27, .int .i64 (((stR (rs0 names) (cs ++ [mv 1 0] ++ rowsR names.length t9)).sent : Nat) : Int), .int .i64 ((awayR (stR (rs0 names) (cs ++ [mv 1 0] ++ rowsR names.length t9)).ss names.length : Nat) : Int)]) rfl rfl rfl (k := 0) rfl (rfl) (vs' := [.slice sa22 sn23 sc24, .slice sa25 sn26 sc27, .int .i64 (((stR (rs0 names) (cs ++ [mv 1 0] ++ rowsR names.length t9)).sent : Nat) : Int), .int .i64 ((awayR (stR (rs0 names) (cs ++ [mv 1 0] ++ rowsR names.length t9)).ss names.length : Nat) : Int)]) (rfl) (l' := [Hp.rec_ b28 [.slice sa22 sn23 sc24, .slice sa25 sn26 sc27, .int .i64 (((stR (rs0 names) (cs ++ [mv 1 0] ++ rowsR names.length t9)).sent : Nat) : Int), .int .i64 ((awayR (stR (rs0 names) (cs ++ [mv 1 0] ++ rowsR names.length t9)).ss names.length : Nat) : Int)]]) rfl) ?_
          rintro _ _ rfl
          refine Gx.val rfl rfl rfl (val_assign rfl rfl) ?_
          refine Gx.done ?_
          refine Gx.thenN ?_
          refine Gx.seq ?_
          refine Gx.regionQ Try.mixed (by kernel_rfl) ?_
          refine Gq.val rfl rfl rfl (val_move rfl rfl) ?_
          refine Gq.val rfl rfl rfl (Val.cast (val_eql rfl rfl rfl) (v' := .bool true) rfl) ?_
          refine Gq.val rfl rfl rfl (val_move rfl rfl) ?_
          refine Gq.valg rfl rfl rfl rfl rfl (Val.cast (val_fieldAddr rfl Try.underlying26 rfl Try.ty3 rfl rfl) (v' := ptr b28 3) rfl) ?_
          refine Gq.valg rfl rfl rfl rfl rfl (val_load rfl Try.ty3 rfl rfl (cell_rec (k := 0) rfl rfl)) ?_
          refine Gq.valg rfl rfl rfl rfl rfl (val_eql rfl rfl rfl) ?_
          refine Gq.val rfl rfl rfl (val_pickT rfl rfl rfl) ?_
          refine Gq.val rfl rfl rfl (val_move rfl rfl) ?_
          refine Gq.slot (t := 65) (v := .bool true) (look_decT rfl (by omega)) ?_
          refine Gq.valg rfl rfl rfl rfl rfl (Val.cast (val_fieldAddr rfl Try.underlying26 rfl Try.ty22 rfl rfl) (v' := ptr b28 1) rfl) ?_
          refine Gq.valg rfl rfl rfl rfl rfl (val_load rfl Try.ty22 rfl rfl (cell_rec (k := 0) rfl rfl)) ?_
          refine Gq.valg rfl rfl rfl rfl rfl (val_len rfl Try.underlying22 rfl (len_base hdv15)) ?_
          refine Gq.valg rfl rfl rfl rfl rfl (val_eql rfl rfl rfl) ?_
          refine Gq.val rfl rfl rfl (val_pickT rfl rfl rfl) ?_
          refine Gq.val rfl rfl rfl (val_move rfl rfl) ?_
          refine Gq.slot (t := 71) (v := .bool true) (look_decT rfl (by omega)) ?_
          refine Gq.valg rfl rfl rfl rfl rfl (Val.cast (val_fieldAddr rfl Try.underlying26 rfl Try.ty22 rfl rfl) (v' := ptr b28 1) rfl) ?_
          refine Gq.valg rfl rfl rfl rfl rfl (val_load rfl Try.ty22 rfl rfl (cell_rec (k := 0) rfl rfl)) ?_
          refine Gq.valg rfl rfl rfl rfl rfl (val_ixa rfl Try.underlying22 Try.ty3 rfl rfl (j := 0) (rfl) (reach_base hdv15 hc0)) ?_
          refine Gq.valg rfl rfl rfl rfl rfl (val_load rfl Try.ty3 rfl rfl (cell_base (i := 0) (sz := 1) (j := 0) hdv15 hc0 rfl)) ?_
          refine Gq.valg rfl rfl rfl rfl rfl (val_move rfl rfl) ?_
          refine Gq.valg rfl rfl rfl rfl rfl (val_call (vs := [nv]) rfl Try.fn8 rfl (fun w H => great_any (hs19.below H.below) h1n)) ?_
          refine Gq.valg rfl rfl rfl rfl rfl (val_eql rfl rfl rfl) ?_
          refine Gq.val rfl rfl rfl (val_pickT rfl rfl rfl) ?_
          refine Gq.val rfl rfl rfl (val_assign rfl rfl) ?_
          refine Gq.done ?_
          refine Gx.thenN ?_
          refine Gx.ret ?_
          refine Gx.ret1B hW18 Try.results5 rfl ?_
          first | rfl | exact congrArg Value.bool (decide_eq_true (by omega))

end Go.Proofs.Yteejbaindbiimaa
