/- Somebody is inside when all has come. The walk. No condition. -/
import Derived.Test.YtgfileonpoghmaaB2
namespace Go.Proofs.Ytgfileonpoghmaa
open Go.RowKit
set_option linter.unusedVariables false
set_option linter.unusedSimpArgs false
set_option maxRecDepth 100000

abbrev tk (i j : Nat) : Mv := ⟨2, (i : Int), (j : Int)⟩
theorem FM_one (p : Mv) (u : Value) (h : u ∈ FM p) : u.oneCell' = true := by simp [FM] at h; rcases h with rfl | rfl | rfl <;> rfl
theorem Try.eM : Elem Try.prog 22 34 (.agg #[.int .i64 0, .int .i64 0, .int .i64 0]) 3 24 := ⟨Try.underlying22, by kernel_rfl, rfl, by decide⟩
theorem mul_le1 {i n : Nat} (h : i < n) : i * n + n ≤ n * n := by
  have := Nat.mul_le_mul_right n (show i + 1 ≤ n by omega)
  rwa [Nat.add_mul, Nat.one_mul] at this
theorem mul_s (i n : Nat) : (i + 1) * n = i * n + n := by rw [Nat.add_mul, Nat.one_mul]
theorem nn_le {n : Nat} (h : n ≤ 4) : n * n ≤ 16 := Nat.mul_le_mul h h
theorem goes_no {W : World} {n : Int} {sv : Value} {cs : List Mv} (hs : SlS FM 3 W sv cs) (hbad : n < 1 ∨ 4 < n ∨ 40 < (cs.length : Int)) :
    Calls Try.prog 4 #[.int .i64 n, sv] W fun e w' => e = .returned (.bool true) ∧ Below W.heap.size W w' := by
  have hm := sls_bd hs
  refine calls_pure (Gx.enter (l := []) Try.func4 rfl Try.ntmps4 rfl (Sat.start W) ?_)
  refine Gx.know (m' := [(0, .int .i64 n), (1, sv)]) (.cons rfl (.cons rfl .nil)) ?_
  refine Gx.seq ?_
  refine Gx.region ?_
  refine Gx.val rfl rfl rfl (val_assign rfl rfl) ?_
  refine Gx.done ?_
  refine Gx.thenN ?_
  refine Gx.seq ?_
  refine Gx.seq ?_
  refine Gx.region ?_
  refine Gx.val rfl rfl rfl (val_move rfl rfl) ?_
  refine Gx.val rfl rfl rfl (val_lss rfl rfl rfl) ?_
  refine Gx.val rfl rfl rfl (val_move rfl rfl) ?_
  refine Gx.cases (t := 16) rfl (fun h1 => ?_) (fun h1 => ?_)
  · refine Gx.skipg rfl rfl rfl rfl rfl rfl ?_
    refine Gx.skipg rfl rfl rfl rfl rfl rfl ?_
    refine Gx.val rfl rfl rfl (val_pickT rfl rfl rfl) ?_
    refine Gx.val rfl rfl rfl (val_move rfl rfl) ?_
    refine Gx.skipg rfl rfl rfl rfl rfl rfl ?_
    refine Gx.skipg rfl rfl rfl rfl rfl rfl ?_
    refine Gx.skipg rfl rfl rfl rfl rfl rfl ?_
    refine Gx.val rfl rfl rfl (val_pickT rfl rfl rfl) ?_
    refine Gx.done ?_
    refine Gx.thenN ?_
    refine Gx.t rfl ?_
    refine Gx.seq ?_
    refine Gx.region ?_
    refine Gx.val rfl rfl rfl (val_assign rfl rfl) ?_
    refine Gx.done ?_
    refine Gx.thenN ?_
    refine Gx.ret ?_
    refine Gx.thenR ?_
    refine Gx.ret1 Try.results4 rfl ?_
    rfl
  · refine Gx.valg rfl rfl rfl rfl rfl (val_move rfl rfl) ?_
    refine Gx.valg rfl rfl rfl rfl rfl (val_gtr rfl rfl rfl) ?_
    refine Gx.val rfl rfl rfl (val_pickF rfl rfl rfl) ?_
    refine Gx.val rfl rfl rfl (val_move rfl rfl) ?_
    refine Gx.cases (t := 20) rfl (fun h2 => ?_) (fun h2 => ?_)
    · refine Gx.skipg rfl rfl rfl rfl rfl rfl ?_
      refine Gx.skipg rfl rfl rfl rfl rfl rfl ?_
      refine Gx.skipg rfl rfl rfl rfl rfl rfl ?_
      refine Gx.val rfl rfl rfl (val_pickT rfl rfl rfl) ?_
      refine Gx.done ?_
      refine Gx.thenN ?_
      refine Gx.t rfl ?_
      refine Gx.seq ?_
      refine Gx.region ?_
      refine Gx.val rfl rfl rfl (val_assign rfl rfl) ?_
      refine Gx.done ?_
      refine Gx.thenN ?_
      refine Gx.ret ?_
      refine Gx.thenR ?_
      refine Gx.ret1 Try.results4 rfl ?_
      rfl
    · refine Gx.valg rfl rfl rfl rfl rfl (val_move rfl rfl) ?_
      refine Gx.valg rfl rfl rfl rfl rfl (val_len rfl Try.underlying22 rfl (len_base hs)) ?_
      refine Gx.valg rfl rfl rfl rfl rfl (val_gtr rfl rfl rfl) ?_
      refine Gx.val rfl rfl rfl (val_pickF rfl rfl rfl) ?_
      refine Gx.done ?_
      refine Gx.thenN ?_
      refine Gx.dec rfl (fun h3 => ?_) (fun h3 => ?_)
      · refine Gx.seq ?_
        refine Gx.region ?_
        refine Gx.val rfl rfl rfl (val_assign rfl rfl) ?_
        refine Gx.done ?_
        refine Gx.thenN ?_
        refine Gx.ret ?_
        refine Gx.thenR ?_
        refine Gx.ret1 Try.results4 rfl ?_
        rfl
      · exfalso; omega

theorem goes_yes {W : World} {n : Nat} {sv : Value} {cs : List Mv} (h1n : 1 ≤ n) (h4n : n ≤ 4) (hcl : cs.length ≤ 40) (hs : SlS FM 3 W sv cs) :
    Calls Try.prog 4 #[.int .i64 ((n : Nat) : Int), sv] W fun e w' => e = .returned (.bool true) ∧ Below W.heap.size W w' := by
  have h6n : n ≤ 6 := by omega
  have hnn := nn_le h4n
  refine calls_pure (Gx.enter (l := []) Try.func4 rfl Try.ntmps4 rfl (Sat.start W) ?_)
  refine Gx.know (m' := [(0, .int .i64 ((n : Nat) : Int)), (1, sv)]) (.cons rfl (.cons rfl .nil)) ?_
  refine Gx.seq ?_
  refine Gx.region ?_
  refine Gx.val rfl rfl rfl (val_assign rfl rfl) ?_
  refine Gx.done ?_
  refine Gx.thenN ?_
  refine Gx.seq ?_
  refine Gx.seq ?_
  refine Gx.region ?_
  refine Gx.val rfl rfl rfl (val_move rfl rfl) ?_
  refine Gx.val rfl rfl rfl (val_lss rfl rfl rfl) ?_
  refine Gx.val rfl rfl rfl (val_move rfl rfl) ?_
  refine Gx.slot (t := 16) (v := .bool false) (look_decF rfl (by omega)) ?_
  refine Gx.valg rfl rfl rfl rfl rfl (val_move rfl rfl) ?_
  refine Gx.valg rfl rfl rfl rfl rfl (val_gtr rfl rfl rfl) ?_
  refine Gx.val rfl rfl rfl (val_pickF rfl rfl rfl) ?_
  refine Gx.val rfl rfl rfl (val_move rfl rfl) ?_
  refine Gx.slot (t := 20) (v := .bool false) (look_decF rfl (by omega)) ?_
  refine Gx.valg rfl rfl rfl rfl rfl (val_move rfl rfl) ?_
  refine Gx.valg rfl rfl rfl rfl rfl (val_len rfl Try.underlying22 rfl (len_base hs)) ?_
  refine Gx.valg rfl rfl rfl rfl rfl (val_gtr rfl rfl rfl) ?_
  refine Gx.val rfl rfl rfl (val_pickF rfl rfl rfl) ?_
  refine Gx.done ?_
  refine Gx.thenN ?_
  refine Gx.decF rfl (by omega) ?_
  refine Gx.skip ?_
  refine Gx.thenN ?_
  refine Gx.seq ?_
  refine Gx.region ?_
  refine Gx.eff rfl rfl rfl (eff_buildNil (f := FM) (sz := 3) (e := 34) rfl Try.underlying22 (fun w => by first | (go_simp; done) | (go_simp; rfl))) ?_
  rintro v1 _ ⟨hiv1, rfl⟩
  refine Gx.val rfl rfl rfl (val_move rfl rfl) ?_
  refine Gx.eff rfl rfl rfl (eff_pushAll (k := 0) (ys := cs) rfl Try.eM FM_len FM_one rfl rfl (fun w H => hs.below H.below) rfl (by simp; omega) (by simp; omega)) ?_
  rintro v2 _ ⟨hiv2, rfl⟩
  refine Gx.norm (l' := [Hp.own FM 3 v2 cs]) rfl ?_
  refine Gx.val rfl rfl rfl (val_assign rfl rfl) ?_
  refine Gx.done ?_
  refine Gx.thenN ?_
  refine Gx.seq ?_
  refine Gx.seq ?_
  refine Gx.region ?_
  refine Gx.val rfl rfl rfl (val_assign rfl rfl) ?_
  refine Gx.done ?_
  refine Gx.thenN ?_
  refine Gx.block ?_
  refine Gx.loop (ι := Nat × (List Mv) × Value) (fun ξ => (ξ.2.1.length ≤ 120) ∧ (ξ.1 ≤ ξ.2.1.length) ∧ (IsS ξ.2.2)) (fun ξ => [(0, .int .i64 ((n : Nat) : Int)), (5, ξ.2.2), (6, .int .i64 ((ξ.1 : Nat) : Int))]) (fun ξ => [Hp.own FM 3 ξ.2.2 ξ.2.1]) (fun ξ => 120 - ξ.2.1.length) (0, cs, v2) ⟨by simp; omega, by first | omega | (dsimp only; omega), hiv2⟩ ((.cons rfl (.cons rfl (.cons rfl .nil)))) rfl ?_
  rintro ⟨tt, xs, vv⟩ ⟨hxl, htt, hiv⟩
  dsimp only at hxl htt hiv
  refine Gx.know (m' := [(0, .int .i64 ((n : Nat) : Int)), (5, vv), (6, .int .i64 ((tt : Nat) : Int))]) (.cons rfl (.cons rfl (.cons rfl .nil))) (Gx.norm (l' := [Hp.own FM 3 vv xs]) rfl ?_)
  refine Gx.seq ?_
  refine Gx.seq ?_
  refine Gx.region ?_
  refine Gx.val rfl rfl rfl (val_move rfl rfl) ?_
  refine Gx.val rfl rfl rfl (val_len rfl Try.underlying22 rfl (len_own (k := 0) rfl)) ?_
  refine Gx.val rfl rfl rfl (val_move rfl rfl) ?_
  refine Gx.val rfl rfl rfl (val_move rfl rfl) ?_
  refine Gx.val rfl rfl rfl (val_mul rfl rfl rfl (r := ((n * n : Nat) : Int)) (w64 (by omega) (by omega))) ?_
  refine Gx.val rfl rfl rfl (val_add rfl rfl rfl (r := ((xs.length + (n * n) : Nat) : Int)) (w64 (by omega) (by omega))) ?_
  refine Gx.val rfl rfl rfl (val_leq rfl rfl rfl) ?_
  refine Gx.done ?_
  refine Gx.thenN ?_
  refine Gx.dec rfl (fun h3 => ?_) (fun h3 => ?_)
  · refine Gx.skip ?_
    refine Gx.thenN ?_
    refine Gx.seq ?_
    refine Gx.block ?_
    refine Gx.seq ?_
    refine Gx.seq ?_
    refine Gx.region ?_
    refine Gx.val rfl rfl rfl (val_assign rfl rfl) ?_
    refine Gx.done ?_
    refine Gx.thenN ?_
    refine Gx.block ?_
    refine Gx.loop (ι := Nat × (List Mv) × Value) (fun ξ => (ξ.1 ≤ n) ∧ (ξ.2.1.length ≤ xs.length + ξ.1 * n) ∧ (n = 1 ∨ xs.length + ξ.1 ≤ ξ.2.1.length) ∧ (IsS ξ.2.2)) (fun ξ => [(0, .int .i64 ((n : Nat) : Int)), (5, ξ.2.2), (6, .int .i64 ((tt : Nat) : Int)), (7, .int .i64 ((ξ.1 : Nat) : Int))]) (fun ξ => [Hp.own FM 3 ξ.2.2 ξ.2.1]) (fun ξ => n - ξ.1) (0, xs, vv) ⟨by first | omega | (dsimp only; omega), by dsimp only; omega, by dsimp only; omega, hiv⟩ ((.cons rfl (.cons rfl (.cons rfl (.cons rfl .nil))))) rfl ?_
    rintro ⟨i, ys, vw⟩ ⟨hi, hyl, hyg, hiw⟩
    dsimp only at hi hyl hyg hiw
    refine Gx.know (m' := [(0, .int .i64 ((n : Nat) : Int)), (5, vw), (6, .int .i64 ((tt : Nat) : Int)), (7, .int .i64 ((i : Nat) : Int))]) (.cons rfl (.cons rfl (.cons rfl (.cons rfl .nil)))) (Gx.norm (l' := [Hp.own FM 3 vw ys]) rfl ?_)
    refine Gx.seq ?_
    refine Gx.seq ?_
    refine Gx.region ?_
    refine Gx.val rfl rfl rfl (val_move rfl rfl) ?_
    refine Gx.val rfl rfl rfl (val_move rfl rfl) ?_
    refine Gx.val rfl rfl rfl (val_lss rfl rfl rfl) ?_
    refine Gx.done ?_
    refine Gx.thenN ?_
    refine Gx.dec rfl (fun h4 => ?_) (fun h4 => ?_)
    · refine Gx.skip ?_
      refine Gx.thenN ?_
      refine Gx.seq ?_
      refine Gx.block ?_
      refine Gx.seq ?_
      have hin := mul_le1 (show i < n by omega)
      refine Gx.region ?_
      refine Gx.val rfl rfl rfl (val_assign rfl rfl) ?_
      refine Gx.done ?_
      refine Gx.thenN ?_
      refine Gx.block ?_
      refine Gx.loop (ι := Nat × (List Mv) × Value) (fun ξ => (ξ.1 ≤ n) ∧ ((ξ.1 ≤ i ∧ ξ.2.1.length = ys.length + ξ.1) ∨ (i < ξ.1 ∧ ξ.2.1.length + 1 = ys.length + ξ.1)) ∧ (IsS ξ.2.2)) (fun ξ => [(0, .int .i64 ((n : Nat) : Int)), (5, ξ.2.2), (6, .int .i64 ((tt : Nat) : Int)), (7, .int .i64 ((i : Nat) : Int)), (8, .int .i64 ((ξ.1 : Nat) : Int))]) (fun ξ => [Hp.own FM 3 ξ.2.2 ξ.2.1]) (fun ξ => n - ξ.1) (0, ys, vw) ⟨by first | omega | (dsimp only; omega), by first | omega | (dsimp only; omega), hiw⟩ ((.cons rfl (.cons rfl (.cons rfl (.cons rfl (.cons rfl .nil)))))) rfl ?_
      rintro ⟨j, zs, vx⟩ ⟨hj, hzl, hix⟩
      dsimp only at hj hzl hix
      refine Gx.know (m' := [(0, .int .i64 ((n : Nat) : Int)), (5, vx), (6, .int .i64 ((tt : Nat) : Int)), (7, .int .i64 ((i : Nat) : Int)), (8, .int .i64 ((j : Nat) : Int))]) (.cons rfl (.cons rfl (.cons rfl (.cons rfl (.cons rfl .nil))))) (Gx.norm (l' := [Hp.own FM 3 vx zs]) rfl ?_)
      refine Gx.seq ?_
      refine Gx.seq ?_
      refine Gx.region ?_
      refine Gx.val rfl rfl rfl (val_move rfl rfl) ?_
      refine Gx.val rfl rfl rfl (val_move rfl rfl) ?_
      refine Gx.val rfl rfl rfl (val_lss rfl rfl rfl) ?_
      refine Gx.done ?_
      refine Gx.thenN ?_
      refine Gx.dec rfl (fun h5 => ?_) (fun h5 => ?_)
      · refine Gx.skip ?_
        refine Gx.thenN ?_
        refine Gx.seq ?_
        refine Gx.block ?_
        refine Gx.seq ?_
        refine Gx.region ?_
        refine Gx.val rfl rfl rfl (val_move rfl rfl) ?_
        refine Gx.val rfl rfl rfl (val_move rfl rfl) ?_
        refine Gx.val rfl rfl rfl (val_neq rfl rfl rfl) ?_
        refine Gx.done ?_
        refine Gx.thenN ?_
        refine Gx.dec rfl (fun h6 => ?_) (fun h6 => ?_)
        · refine Gx.region ?_
          refine Gx.val rfl rfl rfl (val_move rfl rfl) ?_
          refine Gx.val rfl rfl rfl (val_move rfl rfl) ?_
          refine Gx.val rfl rfl rfl (val_move rfl rfl) ?_
          refine Gx.val rfl rfl rfl (val_build rfl (qs := [(0, .int .i64 2), (1, .int .i64 ((i : Nat) : Int)), (2, .int .i64 ((j : Nat) : Int))]) rfl rfl (fun w => by go_simp) (v := .agg #[.int .i64 2, .int .i64 ((i : Nat) : Int), .int .i64 ((j : Nat) : Int)])) ?_
          refine Gx.eff rfl rfl rfl (eff_buildSlice rfl (qs := [(0, .agg #[.int .i64 2, .int .i64 ((i : Nat) : Int), .int .i64 ((j : Nat) : Int)])]) rfl rfl (cs := #[.int .i64 2, .int .i64 ((i : Nat) : Int), .int .i64 ((j : Nat) : Int)]) (vs := [.int .i64 2, .int .i64 ((i : Nat) : Int), .int .i64 ((j : Nat) : Int)]) (E := 34) rfl (fun w => by first | (go_simp; done) | (go_simp; rfl))) ?_
          rintro _ _ ⟨b7, rfl, rfl⟩
          refine Gx.eff rfl rfl rfl (eff_push (r := (tk i j)) rfl Try.eM FM_len FM_one rfl rfl (k := 0) rfl rfl (k' := 0) rfl (by omega) (by omega)) ?_
          rintro v8 _ ⟨hiv8, rfl⟩
          refine Gx.norm (l' := [Hp.own FM 3 v8 (zs ++ [(tk i j)])]) rfl ?_
          refine Gx.val rfl rfl rfl (val_assign rfl rfl) ?_
          refine Gx.done ?_
          refine Gx.blkN ?_
          refine Gx.thenN ?_
          refine Gx.region ?_
          refine Gx.val rfl rfl rfl (val_move rfl rfl) ?_
          refine Gx.val rfl rfl rfl (val_add rfl rfl rfl (r := ((j + 1 : Nat) : Int)) (w64 (by omega) (by omega))) ?_
          refine Gx.val rfl rfl rfl (val_assign rfl rfl) ?_
          refine Gx.done ?_
          refine Gx.thenN ?_
          exact Gx.round (j + 1, (zs ++ [(tk i j)]), v8) ⟨by first | omega | (dsimp only; omega), by first | (dsimp only; omega) | (dsimp only; rw [List.length_append, List.length_singleton]; omega), hiv8⟩ (by first | omega | (dsimp only; omega)) ((.cons rfl (.cons rfl (.cons rfl (.cons rfl (.cons rfl .nil)))))) rfl
        · refine Gx.skip ?_
          refine Gx.blkN ?_
          refine Gx.thenN ?_
          refine Gx.region ?_
          refine Gx.val rfl rfl rfl (val_move rfl rfl) ?_
          refine Gx.val rfl rfl rfl (val_add rfl rfl rfl (r := ((j + 1 : Nat) : Int)) (w64 (by omega) (by omega))) ?_
          refine Gx.val rfl rfl rfl (val_assign rfl rfl) ?_
          refine Gx.done ?_
          refine Gx.thenN ?_
          exact Gx.round (j + 1, zs, vx) ⟨by first | omega | (dsimp only; omega), by first | (dsimp only; omega) | (dsimp only; rw [List.length_append, List.length_singleton]; omega), hix⟩ (by first | omega | (dsimp only; omega)) ((.cons rfl (.cons rfl (.cons rfl (.cons rfl (.cons rfl .nil)))))) rfl
      · refine Gx.exit ?_
        refine Gx.thenE ?_
        refine Gx.thenE ?_
        refine Gx.blkE ?_
        refine Gx.blkN ?_
        refine Gx.thenN ?_
        refine Gx.region ?_
        refine Gx.val rfl rfl rfl (val_move rfl rfl) ?_
        refine Gx.val rfl rfl rfl (val_add rfl rfl rfl (r := ((i + 1 : Nat) : Int)) (w64 (by omega) (by omega))) ?_
        refine Gx.val rfl rfl rfl (val_assign rfl rfl) ?_
        refine Gx.done ?_
        refine Gx.thenN ?_
        exact Gx.round (i + 1, zs, vx) ⟨by first | omega | (dsimp only; omega), by dsimp only; rw [mul_s]; omega, by first | omega | (dsimp only; omega), hix⟩ (by first | omega | (dsimp only; omega)) ((.cons rfl (.cons rfl (.cons rfl (.cons rfl .nil))))) rfl
    · refine Gx.exit ?_
      refine Gx.thenE ?_
      refine Gx.thenE ?_
      refine Gx.blkE ?_
      refine Gx.thenN ?_
      refine Gx.seq ?_
      have hi9 : i * n = n * n := by rw [show i = n by omega]
      refine Gx.region ?_
      refine Gx.val rfl rfl rfl (val_move rfl rfl) ?_
      refine Gx.val rfl rfl rfl (val_eql rfl rfl rfl) ?_
      refine Gx.done ?_
      refine Gx.thenN ?_
      refine Gx.dec rfl (fun h9 => ?_) (fun h9 => ?_)
      · refine Gx.exit ?_
        refine Gx.blkO rfl ?_
        refine Gx.thenE ?_
        refine Gx.thenE ?_
        refine Gx.blkE ?_
        refine Gx.thenN ?_
        refine Gx.seq ?_
        refine Gx.region ?_
        refine Gx.val rfl rfl rfl (val_move rfl rfl) ?_
        refine Gx.val rfl rfl rfl (val_move rfl rfl) ?_
        refine Gx.callB rfl rfl rfl (vs := [.int .i64 ((n : Nat) : Int), vw]) rfl Try.fn6 rfl (R := fun v w' => ∃ cv iv dv aw, v = .tuple #[.agg #[cv, iv, dv, .int .i64 ((aw : Nat) : Int)], .int .i64 0] ∧ SlS FZ 1 w' cv (codesM (ms0 n) ys) ∧ SlS FN 1 w' iv (stM (ms0 n) ys).ins ∧ SlS FN 1 w' dv (inL (stM (ms0 n) ys).ps n) ∧ (aw = 0 → ∀ kw, (stM (ms0 n) ys).q kw = [])) (fun w H => play_ok h1n h6n ((H.at_ (k := 0) rfl).sls (by omega)) (by omega)) ?_
        rintro _ W14 ⟨cv10, iv11, dv12, aw13, rfl, hcv10, hiv11, hdv12, haw13⟩ H15
        have hW16 := H15.below
        have hs17 := hs.below H15.below
        have hs18 := (H15.at_ (k := 0) rfl).sls (by first | omega | (simp; omega))
        have hclcv10 : (codesM (ms0 n) ys).length = (ys).length := codesM_len ..
        have hilcv10 := ((BdM.zero n).run ys).ins
        have hdlcv10 := inL_len (stM (ms0 n) ys).ps n
        obtain ⟨a19, m20, c21, rfl⟩ := hcv10.isS
        obtain ⟨a22, m23, c24, rfl⟩ := hiv11.isS
        obtain ⟨a25, m26, c27, rfl⟩ := hdv12.isS
        refine Gx.val rfl rfl rfl (val_move rfl rfl) ?_
        refine Gx.val rfl rfl rfl (val_extract rfl rfl rfl) ?_
        refine Gx.val rfl rfl rfl (val_extract rfl rfl rfl) ?_
        refine Gx.eff rfl rfl rfl (eff_alloc rfl Try.ty26 (vs := [.slice none 0 0, .slice none 0 0, .slice none 0 0, .int .i64 0]) rfl) ?_
        rintro _ _ ⟨b28, rfl, rfl⟩
        refine Gx.eff0 rfl rfl (eff_store rfl Try.ty26 rfl rfl (us := [.slice a19 m20 c21, .slice a22 m23 c24, .slice a25 m26 c27, .int .i64 ((aw13 : Nat) : Int)]) rfl rfl rfl (k := 0) rfl (rfl) (vs' := [.slice a19 m20 c21, .slice a22 m23 c24, .slice a25 m26 c27, .int .i64 ((aw13 : Nat) : Int)]) (rfl) (l' := [Hp.rec_ b28 [.slice a19 m20 c21, .slice a22 m23 c24, .slice a25 m26 c27, .int .i64 ((aw13 : Nat) : Int)]]) rfl) ?_
        rintro _ _ rfl
        refine Gx.val rfl rfl rfl (val_assign rfl rfl) ?_
        refine Gx.done ?_
        refine Gx.thenN ?_
        refine Gx.seq ?_
        refine Gx.seq ?_
        refine Gx.region ?_
        refine Gx.val rfl rfl rfl (val_move rfl rfl) ?_
        refine Gx.val rfl rfl rfl (Val.cast (val_neq rfl rfl rfl) (v' := .bool false) rfl) ?_
        refine Gx.val rfl rfl rfl (val_move rfl rfl) ?_
        refine Gx.valg rfl rfl rfl rfl rfl (Val.cast (val_fieldAddr rfl Try.underlying26 rfl Try.ty23 rfl rfl) (v' := ptr b28 0) rfl) ?_
        refine Gx.valg rfl rfl rfl rfl rfl (val_load rfl Try.ty23 rfl rfl (cell_rec (k := 0) rfl rfl)) ?_
        refine Gx.valg rfl rfl rfl rfl rfl (val_len rfl Try.underlying23 rfl (len_base hcv10)) ?_
        refine Gx.valg rfl rfl rfl rfl rfl (val_move rfl rfl) ?_
        refine Gx.valg rfl rfl rfl rfl rfl (val_len rfl Try.underlying22 rfl (len_base hs18)) ?_
        refine Gx.valg rfl rfl rfl rfl rfl (val_neq rfl rfl rfl) ?_
        refine Gx.val rfl rfl rfl (val_pickF rfl rfl rfl) ?_
        refine Gx.done ?_
        refine Gx.thenN ?_
        refine Gx.decF rfl (by omega) ?_
        refine Gx.skip ?_
        refine Gx.thenN ?_
        refine Gx.seq ?_
        refine Gx.region ?_
        refine Gx.val rfl rfl rfl (val_move rfl rfl) ?_
        refine Gx.val rfl rfl rfl (Val.cast (val_fieldAddr rfl Try.underlying26 rfl Try.ty23 rfl rfl) (v' := ptr b28 0) rfl) ?_
        refine Gx.val rfl rfl rfl (val_load rfl Try.ty23 rfl rfl (cell_rec (k := 0) rfl rfl)) ?_
        refine Gx.callB rfl rfl rfl (vs := [vw, .slice a19 m20 c21]) rfl Try.fn9 rfl (R := fun v w' => SlS FI 1 w' v (askI ys (codesM (ms0 n) ys) (ys).length)) (fun w H => asking_any (hs18.below H.below) (hcv10.below H.below) (codesM_len ..) (by first | omega | (rw [List.length_take]; omega))) ?_
        rintro lv29 W30 hlv29 H31
        have hW32 := hW16.trans (H31.below.mono hW16.size)
        have hs33 := hs17.below H31.below
        have hs34 := hs18.below H31.below
        have hs35 := hcv10.below H31.below
        have hs36 := hiv11.below H31.below
        have hs37 := hdv12.below H31.below
        have hb38 := (H31.at_ (k := 0) rfl).rec_.1
        have hc39 := (H31.at_ (k := 0) rfl).cell 0 (u := .slice a19 m20 c21) rfl
        have hc40 := (H31.at_ (k := 0) rfl).cell 1 (u := .slice a22 m23 c24) rfl
        have hc41 := (H31.at_ (k := 0) rfl).cell 2 (u := .slice a25 m26 c27) rfl
        have hc42 := (H31.at_ (k := 0) rfl).cell 3 (u := .int .i64 ((aw13 : Nat) : Int)) rfl
        have haklv29 := askI_len ys (codesM (ms0 n) ys) (ys).length
        refine Gx.val rfl rfl rfl (val_assign rfl rfl) ?_
        refine Gx.done ?_
        refine Gx.thenN ?_
        refine Gx.seq ?_
        refine Gx.seq ?_
        refine Gx.region ?_
        refine Gx.val rfl rfl rfl (Val.cast (val_fieldAddr rfl Try.underlying26 rfl Try.ty24 rfl rfl) (v' := ptr b28 2) rfl) ?_
        refine Gx.val rfl rfl rfl (val_load rfl Try.ty24 rfl rfl (cell_old hb38 hc41)) ?_
        refine Gx.val rfl rfl rfl (val_len rfl Try.underlying24 rfl (len_base hs37)) ?_
        refine Gx.val rfl rfl rfl (val_move rfl rfl) ?_
        refine Gx.done ?_
        refine Gx.thenN ?_
        refine Gx.block ?_
        refine Gx.loop (ι := Nat) (fun ξ => (ξ ≤ (inL (stM (ms0 n) ys).ps n).length)) (fun ξ => [(9, ptr b28 0), (10, .int .i64 0), (11, lv29), (79, .slice a25 m26 c27), (80, .int .i64 (((inL (stM (ms0 n) ys).ps n).length : Nat) : Int)), (81, .int .i64 ((ξ : Nat) : Int))]) (fun ξ => []) (fun ξ => (inL (stM (ms0 n) ys).ps n).length - ξ) 0 (by first | omega | (dsimp only; omega)) ((.cons rfl (.cons rfl (.cons rfl (.cons rfl (.cons rfl (.cons rfl .nil))))))) rfl ?_
        rintro q hq
        refine Gx.know (m' := [(9, ptr b28 0), (10, .int .i64 0), (11, lv29), (79, .slice a25 m26 c27), (80, .int .i64 (((inL (stM (ms0 n) ys).ps n).length : Nat) : Int)), (81, .int .i64 ((q : Nat) : Int))]) (.cons rfl (.cons rfl (.cons rfl (.cons rfl (.cons rfl (.cons rfl .nil)))))) (Gx.norm (l' := []) rfl ?_)
        refine Gx.seq ?_
        refine Gx.region ?_
        refine Gx.val rfl rfl rfl (val_lss rfl rfl rfl) ?_
        refine Gx.done ?_
        refine Gx.thenN ?_
        refine Gx.seq ?_
        refine Gx.dec rfl (fun h43 => ?_) (fun h43 => ?_)
        · refine Gx.skip ?_
          refine Gx.thenN ?_
          refine Gx.seq ?_
          refine Gx.block ?_
          refine Gx.seq ?_
          refine Gx.region ?_
          obtain ⟨x44, hx44⟩ := get_of_lt (xs := (inL (stM (ms0 n) ys).ps n)) (k := q) (by omega)
          refine Gx.val rfl rfl rfl (val_ixa rfl Try.underlying24 Try.ty3 rfl rfl (j := q) (rfl) (reach_base hs37 hx44)) ?_
          refine Gx.val rfl rfl rfl (val_load rfl Try.ty3 rfl rfl (cell_base (i := 0) hs37 hx44 rfl)) ?_
          refine Gx.val rfl rfl rfl (val_assign rfl rfl) ?_
          refine Gx.done ?_
          refine Gx.thenN ?_
          refine Gx.seq ?_
          refine Gx.region ?_
          refine Gx.val rfl rfl rfl (val_move rfl rfl) ?_
          refine Gx.val rfl rfl rfl (val_move rfl rfl) ?_
          refine Gx.val rfl rfl rfl (val_call (vs := [lv29, .int .i64 ((x44 : Nat) : Int)]) rfl Try.fn10 rfl (fun w H => pos_int (hlv29.below H.below) ((x44 : Nat) : Int))) ?_
          refine Gx.val rfl rfl rfl (val_lss rfl rfl rfl) ?_
          refine Gx.done ?_
          refine Gx.thenN ?_
          refine Gx.decF rfl (by have := pos_in ((asks_all n ys _).2 ⟨x44, rfl, by rw [in_how (List.mem_of_getElem? hx44)]; decide⟩); omega) ?_
          refine Gx.skip ?_
          refine Gx.blkN ?_
          refine Gx.thenN ?_
          refine Gx.region ?_
          refine Gx.val rfl rfl rfl (val_add rfl rfl rfl (r := ((q + 1 : Nat) : Int)) (w64 (by omega) (by omega))) ?_
          refine Gx.val rfl rfl rfl (val_move rfl rfl) ?_
          refine Gx.done ?_
          refine Gx.thenN ?_
          exact Gx.round (q + 1) (by first | omega | (dsimp only; omega)) (by first | omega | (dsimp only; omega)) ((.cons rfl (.cons rfl (.cons rfl (.cons rfl (.cons rfl (.cons rfl .nil))))))) rfl
        · refine Gx.exit ?_
          refine Gx.thenE ?_
          refine Gx.thenE ?_
          refine Gx.blkE ?_
          refine Gx.thenN ?_
          refine Gx.seq ?_
          refine Gx.region ?_
          refine Gx.val rfl rfl rfl (Val.cast (val_fieldAddr rfl Try.underlying26 rfl Try.ty3 rfl rfl) (v' := ptr b28 3) rfl) ?_
          refine Gx.val rfl rfl rfl (val_load rfl Try.ty3 rfl rfl (cell_old hb38 hc42)) ?_
          refine Gx.val rfl rfl rfl (val_gtr rfl rfl rfl) ?_
          refine Gx.val rfl rfl rfl (val_move rfl rfl) ?_
          refine Gx.cases (t := 93) rfl (fun h45 => ?_) (fun h45 => ?_)
          · refine Gx.skipg rfl rfl rfl rfl rfl rfl ?_
            refine Gx.skipg rfl rfl rfl rfl rfl rfl ?_
            refine Gx.skipg rfl rfl rfl rfl rfl rfl ?_
            refine Gx.val rfl rfl rfl (val_pickT rfl rfl rfl) ?_
            refine Gx.val rfl rfl rfl (val_move rfl rfl) ?_
            refine Gx.skipg rfl rfl rfl rfl rfl rfl ?_
            refine Gx.skipg rfl rfl rfl rfl rfl rfl ?_
            refine Gx.skipg rfl rfl rfl rfl rfl rfl ?_
            refine Gx.skipg rfl rfl rfl rfl rfl rfl ?_
            refine Gx.val rfl rfl rfl (val_pickT rfl rfl rfl) ?_
            refine Gx.val rfl rfl rfl (val_assign rfl rfl) ?_
            refine Gx.done ?_
            refine Gx.thenN ?_
            refine Gx.ret ?_
            refine Gx.ret1B hW32 Try.results4 rfl ?_
            rfl
          · refine Gx.valg rfl rfl rfl rfl rfl (val_move rfl rfl) ?_
            refine Gx.valg rfl rfl rfl rfl rfl (val_len rfl Try.underlying24 rfl (len_base hlv29)) ?_
            refine Gx.valg rfl rfl rfl rfl rfl (val_eql rfl rfl rfl) ?_
            refine Gx.val rfl rfl rfl (val_pickF rfl rfl rfl) ?_
            refine Gx.val rfl rfl rfl (val_move rfl rfl) ?_
            refine Gx.cases (t := 98) rfl (fun h46 => ?_) (fun h46 => ?_)
            · refine Gx.skipg rfl rfl rfl rfl rfl rfl ?_
              refine Gx.skipg rfl rfl rfl rfl rfl rfl ?_
              refine Gx.skipg rfl rfl rfl rfl rfl rfl ?_
              refine Gx.skipg rfl rfl rfl rfl rfl rfl ?_
              refine Gx.val rfl rfl rfl (val_pickT rfl rfl rfl) ?_
              refine Gx.val rfl rfl rfl (val_assign rfl rfl) ?_
              refine Gx.done ?_
              refine Gx.thenN ?_
              refine Gx.ret ?_
              refine Gx.ret1B hW32 Try.results4 rfl ?_
              rfl
            · refine Gx.valg rfl rfl rfl rfl rfl (Val.cast (val_fieldAddr rfl Try.underlying26 rfl Try.ty24 rfl rfl) (v' := ptr b28 2) rfl) ?_
              refine Gx.valg rfl rfl rfl rfl rfl (val_load rfl Try.ty24 rfl rfl (cell_old hb38 hc41)) ?_
              refine Gx.valg rfl rfl rfl rfl rfl (val_len rfl Try.underlying24 rfl (len_base hs37)) ?_
              refine Gx.valg rfl rfl rfl rfl rfl (val_eql rfl rfl rfl) ?_
              refine Gx.val rfl rfl rfl (val_pickF rfl rfl rfl) ?_
              refine Gx.val rfl rfl rfl (val_assign rfl rfl) ?_
              refine Gx.done ?_
              refine Gx.thenN ?_
              refine Gx.ret ?_
              refine Gx.ret1B hW32 Try.results4 rfl ?_
              exact congrArg Value.bool (decide_eq_true (by have := goes_in ((InvM.zero n).run (by omega) ys) (by omega) (asks_all n ys) (haw13 (by omega)) (by intro e9; have := congrArg List.length e9; simp only [List.length_nil] at this; omega); omega))
      · refine Gx.skip ?_
        refine Gx.blkN ?_
        refine Gx.thenN ?_
        refine Gx.region ?_
        refine Gx.val rfl rfl rfl (val_move rfl rfl) ?_
        refine Gx.val rfl rfl rfl (val_add rfl rfl rfl (r := ((tt + 1 : Nat) : Int)) (w64 (by omega) (by omega))) ?_
        refine Gx.val rfl rfl rfl (val_assign rfl rfl) ?_
        refine Gx.done ?_
        refine Gx.thenN ?_
        exact Gx.round (tt + 1, ys, vw) ⟨by dsimp only; omega, by first | omega | (dsimp only; omega), hiw⟩ (by first | omega | (dsimp only; omega)) ((.cons rfl (.cons rfl (.cons rfl .nil)))) rfl
  · refine Gx.exit ?_
    refine Gx.thenE ?_
    refine Gx.thenE ?_
    refine Gx.blkE ?_
    refine Gx.thenN ?_
    refine Gx.seq ?_
    refine Gx.region ?_
    refine Gx.val rfl rfl rfl (val_move rfl rfl) ?_
    refine Gx.val rfl rfl rfl (val_move rfl rfl) ?_
    refine Gx.callB rfl rfl rfl (vs := [.int .i64 ((n : Nat) : Int), vv]) rfl Try.fn6 rfl (R := fun v w' => ∃ cv iv dv aw, v = .tuple #[.agg #[cv, iv, dv, .int .i64 ((aw : Nat) : Int)], .int .i64 0] ∧ SlS FZ 1 w' cv (codesM (ms0 n) xs) ∧ SlS FN 1 w' iv (stM (ms0 n) xs).ins ∧ SlS FN 1 w' dv (inL (stM (ms0 n) xs).ps n) ∧ (aw = 0 → ∀ kw, (stM (ms0 n) xs).q kw = [])) (fun w H => play_ok h1n h6n ((H.at_ (k := 0) rfl).sls (by omega)) (by omega)) ?_
    rintro _ W51 ⟨cv47, iv48, dv49, aw50, rfl, hcv47, hiv48, hdv49, haw50⟩ H52
    have hW53 := H52.below
    have hs54 := hs.below H52.below
    have hs55 := (H52.at_ (k := 0) rfl).sls (by first | omega | (simp; omega))
    have hclcv47 : (codesM (ms0 n) xs).length = (xs).length := codesM_len ..
    have hilcv47 := ((BdM.zero n).run xs).ins
    have hdlcv47 := inL_len (stM (ms0 n) xs).ps n
    obtain ⟨a56, m57, c58, rfl⟩ := hcv47.isS
    obtain ⟨a59, m60, c61, rfl⟩ := hiv48.isS
    obtain ⟨a62, m63, c64, rfl⟩ := hdv49.isS
    refine Gx.val rfl rfl rfl (val_move rfl rfl) ?_
    refine Gx.val rfl rfl rfl (val_extract rfl rfl rfl) ?_
    refine Gx.val rfl rfl rfl (val_extract rfl rfl rfl) ?_
    refine Gx.eff rfl rfl rfl (eff_alloc rfl Try.ty26 (vs := [.slice none 0 0, .slice none 0 0, .slice none 0 0, .int .i64 0]) rfl) ?_
    rintro _ _ ⟨b65, rfl, rfl⟩
    refine Gx.eff0 rfl rfl (eff_store rfl Try.ty26 rfl rfl (us := [.slice a56 m57 c58, .slice a59 m60 c61, .slice a62 m63 c64, .int .i64 ((aw50 : Nat) : Int)]) rfl rfl rfl (k := 0) rfl (rfl) (vs' := [.slice a56 m57 c58, .slice a59 m60 c61, .slice a62 m63 c64, .int .i64 ((aw50 : Nat) : Int)]) (rfl) (l' := [Hp.rec_ b65 [.slice a56 m57 c58, .slice a59 m60 c61, .slice a62 m63 c64, .int .i64 ((aw50 : Nat) : Int)]]) rfl) ?_
    rintro _ _ rfl
    refine Gx.val rfl rfl rfl (val_assign rfl rfl) ?_
    refine Gx.done ?_
    refine Gx.thenN ?_
    refine Gx.seq ?_
    refine Gx.seq ?_
    refine Gx.region ?_
    refine Gx.val rfl rfl rfl (val_move rfl rfl) ?_
    refine Gx.val rfl rfl rfl (Val.cast (val_neq rfl rfl rfl) (v' := .bool false) rfl) ?_
    refine Gx.val rfl rfl rfl (val_move rfl rfl) ?_
    refine Gx.valg rfl rfl rfl rfl rfl (Val.cast (val_fieldAddr rfl Try.underlying26 rfl Try.ty23 rfl rfl) (v' := ptr b65 0) rfl) ?_
    refine Gx.valg rfl rfl rfl rfl rfl (val_load rfl Try.ty23 rfl rfl (cell_rec (k := 0) rfl rfl)) ?_
    refine Gx.valg rfl rfl rfl rfl rfl (val_len rfl Try.underlying23 rfl (len_base hcv47)) ?_
    refine Gx.valg rfl rfl rfl rfl rfl (val_move rfl rfl) ?_
    refine Gx.valg rfl rfl rfl rfl rfl (val_len rfl Try.underlying22 rfl (len_base hs55)) ?_
    refine Gx.valg rfl rfl rfl rfl rfl (val_neq rfl rfl rfl) ?_
    refine Gx.val rfl rfl rfl (val_pickF rfl rfl rfl) ?_
    refine Gx.done ?_
    refine Gx.thenN ?_
    refine Gx.decF rfl (by omega) ?_
    refine Gx.skip ?_
    refine Gx.thenN ?_
    refine Gx.seq ?_
    refine Gx.region ?_
    refine Gx.val rfl rfl rfl (val_move rfl rfl) ?_
    refine Gx.val rfl rfl rfl (Val.cast (val_fieldAddr rfl Try.underlying26 rfl Try.ty23 rfl rfl) (v' := ptr b65 0) rfl) ?_
    refine Gx.val rfl rfl rfl (val_load rfl Try.ty23 rfl rfl (cell_rec (k := 0) rfl rfl)) ?_
    refine Gx.callB rfl rfl rfl (vs := [vv, .slice a56 m57 c58]) rfl Try.fn9 rfl (R := fun v w' => SlS FI 1 w' v (askI xs (codesM (ms0 n) xs) (xs).length)) (fun w H => asking_any (hs55.below H.below) (hcv47.below H.below) (codesM_len ..) (by first | omega | (rw [List.length_take]; omega))) ?_
    rintro lv66 W67 hlv66 H68
    have hW69 := hW53.trans (H68.below.mono hW53.size)
    have hs70 := hs54.below H68.below
    have hs71 := hs55.below H68.below
    have hs72 := hcv47.below H68.below
    have hs73 := hiv48.below H68.below
    have hs74 := hdv49.below H68.below
    have hb75 := (H68.at_ (k := 0) rfl).rec_.1
    have hc76 := (H68.at_ (k := 0) rfl).cell 0 (u := .slice a56 m57 c58) rfl
    have hc77 := (H68.at_ (k := 0) rfl).cell 1 (u := .slice a59 m60 c61) rfl
    have hc78 := (H68.at_ (k := 0) rfl).cell 2 (u := .slice a62 m63 c64) rfl
    have hc79 := (H68.at_ (k := 0) rfl).cell 3 (u := .int .i64 ((aw50 : Nat) : Int)) rfl
    have haklv66 := askI_len xs (codesM (ms0 n) xs) (xs).length
    refine Gx.val rfl rfl rfl (val_assign rfl rfl) ?_
    refine Gx.done ?_
    refine Gx.thenN ?_
    refine Gx.seq ?_
    refine Gx.seq ?_
    refine Gx.region ?_
    refine Gx.val rfl rfl rfl (Val.cast (val_fieldAddr rfl Try.underlying26 rfl Try.ty24 rfl rfl) (v' := ptr b65 2) rfl) ?_
    refine Gx.val rfl rfl rfl (val_load rfl Try.ty24 rfl rfl (cell_old hb75 hc78)) ?_
    refine Gx.val rfl rfl rfl (val_len rfl Try.underlying24 rfl (len_base hs74)) ?_
    refine Gx.val rfl rfl rfl (val_move rfl rfl) ?_
    refine Gx.done ?_
    refine Gx.thenN ?_
    refine Gx.block ?_
    refine Gx.loop (ι := Nat) (fun ξ => (ξ ≤ (inL (stM (ms0 n) xs).ps n).length)) (fun ξ => [(9, ptr b65 0), (10, .int .i64 0), (11, lv66), (79, .slice a62 m63 c64), (80, .int .i64 (((inL (stM (ms0 n) xs).ps n).length : Nat) : Int)), (81, .int .i64 ((ξ : Nat) : Int))]) (fun ξ => []) (fun ξ => (inL (stM (ms0 n) xs).ps n).length - ξ) 0 (by first | omega | (dsimp only; omega)) ((.cons rfl (.cons rfl (.cons rfl (.cons rfl (.cons rfl (.cons rfl .nil))))))) rfl ?_
    rintro q hq
    refine Gx.know (m' := [(9, ptr b65 0), (10, .int .i64 0), (11, lv66), (79, .slice a62 m63 c64), (80, .int .i64 (((inL (stM (ms0 n) xs).ps n).length : Nat) : Int)), (81, .int .i64 ((q : Nat) : Int))]) (.cons rfl (.cons rfl (.cons rfl (.cons rfl (.cons rfl (.cons rfl .nil)))))) (Gx.norm (l' := []) rfl ?_)
    refine Gx.seq ?_
    refine Gx.region ?_
    refine Gx.val rfl rfl rfl (val_lss rfl rfl rfl) ?_
    refine Gx.done ?_
    refine Gx.thenN ?_
    refine Gx.seq ?_
    refine Gx.dec rfl (fun h80 => ?_) (fun h80 => ?_)
    · refine Gx.skip ?_
      refine Gx.thenN ?_
      refine Gx.seq ?_
      refine Gx.block ?_
      refine Gx.seq ?_
      refine Gx.region ?_
      obtain ⟨x81, hx81⟩ := get_of_lt (xs := (inL (stM (ms0 n) xs).ps n)) (k := q) (by omega)
      refine Gx.val rfl rfl rfl (val_ixa rfl Try.underlying24 Try.ty3 rfl rfl (j := q) (rfl) (reach_base hs74 hx81)) ?_
      refine Gx.val rfl rfl rfl (val_load rfl Try.ty3 rfl rfl (cell_base (i := 0) hs74 hx81 rfl)) ?_
      refine Gx.val rfl rfl rfl (val_assign rfl rfl) ?_
      refine Gx.done ?_
      refine Gx.thenN ?_
      refine Gx.seq ?_
      refine Gx.region ?_
      refine Gx.val rfl rfl rfl (val_move rfl rfl) ?_
      refine Gx.val rfl rfl rfl (val_move rfl rfl) ?_
      refine Gx.val rfl rfl rfl (val_call (vs := [lv66, .int .i64 ((x81 : Nat) : Int)]) rfl Try.fn10 rfl (fun w H => pos_int (hlv66.below H.below) ((x81 : Nat) : Int))) ?_
      refine Gx.val rfl rfl rfl (val_lss rfl rfl rfl) ?_
      refine Gx.done ?_
      refine Gx.thenN ?_
      refine Gx.decF rfl (by have := pos_in ((asks_all n xs _).2 ⟨x81, rfl, by rw [in_how (List.mem_of_getElem? hx81)]; decide⟩); omega) ?_
      refine Gx.skip ?_
      refine Gx.blkN ?_
      refine Gx.thenN ?_
      refine Gx.region ?_
      refine Gx.val rfl rfl rfl (val_add rfl rfl rfl (r := ((q + 1 : Nat) : Int)) (w64 (by omega) (by omega))) ?_
      refine Gx.val rfl rfl rfl (val_move rfl rfl) ?_
      refine Gx.done ?_
      refine Gx.thenN ?_
      exact Gx.round (q + 1) (by first | omega | (dsimp only; omega)) (by first | omega | (dsimp only; omega)) ((.cons rfl (.cons rfl (.cons rfl (.cons rfl (.cons rfl (.cons rfl .nil))))))) rfl
    · refine Gx.exit ?_
      refine Gx.thenE ?_
      refine Gx.thenE ?_
      refine Gx.blkE ?_
      refine Gx.thenN ?_
      refine Gx.seq ?_
      refine Gx.region ?_
      refine Gx.val rfl rfl rfl (Val.cast (val_fieldAddr rfl Try.underlying26 rfl Try.ty3 rfl rfl) (v' := ptr b65 3) rfl) ?_
      refine Gx.val rfl rfl rfl (val_load rfl Try.ty3 rfl rfl (cell_old hb75 hc79)) ?_
      refine Gx.val rfl rfl rfl (val_gtr rfl rfl rfl) ?_
      refine Gx.val rfl rfl rfl (val_move rfl rfl) ?_
      refine Gx.cases (t := 93) rfl (fun h82 => ?_) (fun h82 => ?_)
      · refine Gx.skipg rfl rfl rfl rfl rfl rfl ?_
        refine Gx.skipg rfl rfl rfl rfl rfl rfl ?_
        refine Gx.skipg rfl rfl rfl rfl rfl rfl ?_
        refine Gx.val rfl rfl rfl (val_pickT rfl rfl rfl) ?_
        refine Gx.val rfl rfl rfl (val_move rfl rfl) ?_
        refine Gx.skipg rfl rfl rfl rfl rfl rfl ?_
        refine Gx.skipg rfl rfl rfl rfl rfl rfl ?_
        refine Gx.skipg rfl rfl rfl rfl rfl rfl ?_
        refine Gx.skipg rfl rfl rfl rfl rfl rfl ?_
        refine Gx.val rfl rfl rfl (val_pickT rfl rfl rfl) ?_
        refine Gx.val rfl rfl rfl (val_assign rfl rfl) ?_
        refine Gx.done ?_
        refine Gx.thenN ?_
        refine Gx.ret ?_
        refine Gx.ret1B hW69 Try.results4 rfl ?_
        rfl
      · refine Gx.valg rfl rfl rfl rfl rfl (val_move rfl rfl) ?_
        refine Gx.valg rfl rfl rfl rfl rfl (val_len rfl Try.underlying24 rfl (len_base hlv66)) ?_
        refine Gx.valg rfl rfl rfl rfl rfl (val_eql rfl rfl rfl) ?_
        refine Gx.val rfl rfl rfl (val_pickF rfl rfl rfl) ?_
        refine Gx.val rfl rfl rfl (val_move rfl rfl) ?_
        refine Gx.cases (t := 98) rfl (fun h83 => ?_) (fun h83 => ?_)
        · refine Gx.skipg rfl rfl rfl rfl rfl rfl ?_
          refine Gx.skipg rfl rfl rfl rfl rfl rfl ?_
          refine Gx.skipg rfl rfl rfl rfl rfl rfl ?_
          refine Gx.skipg rfl rfl rfl rfl rfl rfl ?_
          refine Gx.val rfl rfl rfl (val_pickT rfl rfl rfl) ?_
          refine Gx.val rfl rfl rfl (val_assign rfl rfl) ?_
          refine Gx.done ?_
          refine Gx.thenN ?_
          refine Gx.ret ?_
          refine Gx.ret1B hW69 Try.results4 rfl ?_
          rfl
        · refine Gx.valg rfl rfl rfl rfl rfl (Val.cast (val_fieldAddr rfl Try.underlying26 rfl Try.ty24 rfl rfl) (v' := ptr b65 2) rfl) ?_
          refine Gx.valg rfl rfl rfl rfl rfl (val_load rfl Try.ty24 rfl rfl (cell_old hb75 hc78)) ?_
          refine Gx.valg rfl rfl rfl rfl rfl (val_len rfl Try.underlying24 rfl (len_base hs74)) ?_
          refine Gx.valg rfl rfl rfl rfl rfl (val_eql rfl rfl rfl) ?_
          refine Gx.val rfl rfl rfl (val_pickF rfl rfl rfl) ?_
          refine Gx.val rfl rfl rfl (val_assign rfl rfl) ?_
          refine Gx.done ?_
          refine Gx.thenN ?_
          refine Gx.ret ?_
          refine Gx.ret1B hW69 Try.results4 rfl ?_
          exact congrArg Value.bool (decide_eq_true (by have := goes_in ((InvM.zero n).run (by omega) xs) (by omega) (asks_all n xs) (haw50 (by omega)) (by intro e9; have := congrArg List.length e9; simp only [List.length_nil] at this; omega); omega))

theorem goes_any {W : World} {n : Int} {sv : Value} {cs : List Mv} (hs : SlS FM 3 W sv cs) :
    Calls Try.prog 4 #[.int .i64 n, sv] W fun e w' => e = .returned (.bool true) ∧ Below W.heap.size W w' := by
  by_cases h : n < 1 ∨ 4 < n ∨ 40 < (cs.length : Int)
  · exact goes_no hs h
  · obtain ⟨m, rfl⟩ : ∃ m : Nat, n = (m : Int) := ⟨n.toNat, by omega⟩
    exact goes_yes (by omega) (by omega) (by omega) hs
end Go.Proofs.Ytgfileonpoghmaa
