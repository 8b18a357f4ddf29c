/- What is too large. The walk. No condition. -/
import Derived.Test.YtfpkfbffpkjgbaaA2
namespace Go.Proofs.Ytfpkfbffpkjgbaa
open Go.RowKit
set_option linter.unusedVariables false
set_option linter.unusedSimpArgs false
set_option maxRecDepth 100000

/-- too large -/
def big (n : Int) (a g : Nat) : Bool := decide (n < 1 ∨ 6 < n ∨ 60 < a ∨ 60 < g)
theorem size_any {W : World} {n : Int} {cv av gv : Value} {s : Sp} {xa xg : List Dt} (hc : IsS cv) (ha : SlS FD 3 W av xa) (hg : SlS FD 3 W gv xg) : Calls Try.prog 28 #[.int .i64 n, .agg #[cv, .int .i64 s.n, .int .i64 s.who, .int .i64 s.val, av, gv]] W fun e w' => e = .returned (.bool (big n xa.length xg.length)) ∧ Below W.heap.size W w' := by
  have hm1 := sls_bd ha
  have hm2 := sls_bd hg
  refine calls_pure (Gx.enter (l := []) Try.func28 rfl Try.ntmps28 rfl (Sat.start W) ?_)
  refine Gx.know (m' := [(0, .int .i64 n), (1, .agg #[cv, .int .i64 s.n, .int .i64 s.who, .int .i64 s.val, av, gv])]) (.cons rfl (.cons rfl .nil)) ?_
  refine Gx.seq ?_
  refine Gx.region ?_
  refine Gx.eff rfl rfl rfl (eff_box rfl rfl (vs := [cv, .int .i64 s.n, .int .i64 s.who, .int .i64 s.val, av, gv]) rfl) ?_
  rintro _ _ ⟨b1, rfl, rfl⟩
  refine Gx.val rfl rfl rfl (val_assign rfl rfl) ?_
  refine Gx.done ?_
  refine Gx.thenN ?_
  refine Gx.seq ?_
  refine Gx.region ?_
  refine Gx.val rfl rfl rfl (val_move rfl rfl) ?_
  refine Gx.val rfl rfl rfl (val_lss rfl rfl rfl) ?_
  refine Gx.val rfl rfl rfl (val_move rfl rfl) ?_
  refine Gx.cases (t := 7) rfl (fun h2 => ?_) (fun h2 => ?_)
  · refine Gx.skipg rfl rfl rfl rfl rfl rfl ?_
    refine Gx.skipg rfl rfl rfl rfl rfl rfl ?_
    refine Gx.val rfl rfl rfl (val_pickT rfl rfl rfl) ?_
    refine Gx.val rfl rfl rfl (val_move rfl rfl) ?_
    refine Gx.skipg rfl rfl rfl rfl rfl rfl ?_
    refine Gx.skipg rfl rfl rfl rfl rfl rfl ?_
    refine Gx.skipg rfl rfl rfl rfl rfl rfl ?_
    refine Gx.skipg rfl rfl rfl rfl rfl rfl ?_
    refine Gx.val rfl rfl rfl (val_pickT rfl rfl rfl) ?_
    refine Gx.val rfl rfl rfl (val_move rfl rfl) ?_
    refine Gx.skipg rfl rfl rfl rfl rfl rfl ?_
    refine Gx.skipg rfl rfl rfl rfl rfl rfl ?_
    refine Gx.skipg rfl rfl rfl rfl rfl rfl ?_
    refine Gx.skipg rfl rfl rfl rfl rfl rfl ?_
    refine Gx.val rfl rfl rfl (val_pickT rfl rfl rfl) ?_
    refine Gx.val rfl rfl rfl (val_assign rfl rfl) ?_
    refine Gx.done ?_
    refine Gx.thenN ?_
    refine Gx.ret ?_
    refine Gx.ret1 Try.results28 rfl ?_
    exact congrArg Value.bool (by unfold big; first | rfl | exact (decide_eq_true (by omega)).symm | exact (decide_eq_false (by omega)).symm | exact decide_eq_decide.2 (by omega))
  refine Gx.valg rfl rfl rfl rfl rfl (val_move rfl rfl) ?_
  refine Gx.valg rfl rfl rfl rfl rfl (val_gtr rfl rfl rfl) ?_
  refine Gx.val rfl rfl rfl (val_pickF rfl rfl rfl) ?_
  refine Gx.val rfl rfl rfl (val_move rfl rfl) ?_
  refine Gx.cases (t := 11) rfl (fun h3 => ?_) (fun h3 => ?_)
  · refine Gx.skipg rfl rfl rfl rfl rfl rfl ?_
    refine Gx.skipg rfl rfl rfl rfl rfl rfl ?_
    refine Gx.skipg rfl rfl rfl rfl rfl rfl ?_
    refine Gx.skipg rfl rfl rfl rfl rfl rfl ?_
    refine Gx.val rfl rfl rfl (val_pickT rfl rfl rfl) ?_
    refine Gx.val rfl rfl rfl (val_move rfl rfl) ?_
    refine Gx.skipg rfl rfl rfl rfl rfl rfl ?_
    refine Gx.skipg rfl rfl rfl rfl rfl rfl ?_
    refine Gx.skipg rfl rfl rfl rfl rfl rfl ?_
    refine Gx.skipg rfl rfl rfl rfl rfl rfl ?_
    refine Gx.val rfl rfl rfl (val_pickT rfl rfl rfl) ?_
    refine Gx.val rfl rfl rfl (val_assign rfl rfl) ?_
    refine Gx.done ?_
    refine Gx.thenN ?_
    refine Gx.ret ?_
    refine Gx.ret1 Try.results28 rfl ?_
    exact congrArg Value.bool (by unfold big; first | rfl | exact (decide_eq_true (by omega)).symm | exact (decide_eq_false (by omega)).symm | exact decide_eq_decide.2 (by omega))
  refine Gx.valg rfl rfl rfl rfl rfl (Val.cast (val_fieldAddr rfl Try.underlying27 rfl Try.ty25 rfl rfl) (v' := ptr b1 4) rfl) ?_
  refine Gx.valg rfl rfl rfl rfl rfl (val_load rfl Try.ty25 rfl rfl (cell_rec (k := 0) rfl rfl)) ?_
  refine Gx.valg rfl rfl rfl rfl rfl (val_len rfl Try.underlying25 rfl (len_base ha)) ?_
  refine Gx.valg rfl rfl rfl rfl rfl (val_gtr rfl rfl rfl) ?_
  refine Gx.val rfl rfl rfl (val_pickF rfl rfl rfl) ?_
  refine Gx.val rfl rfl rfl (val_move rfl rfl) ?_
  refine Gx.cases (t := 17) rfl (fun h4 => ?_) (fun h4 => ?_)
  · refine Gx.skipg rfl rfl rfl rfl rfl rfl ?_
    refine Gx.skipg rfl rfl rfl rfl rfl rfl ?_
    refine Gx.skipg rfl rfl rfl rfl rfl rfl ?_
    refine Gx.skipg rfl rfl rfl rfl rfl rfl ?_
    refine Gx.val rfl rfl rfl (val_pickT rfl rfl rfl) ?_
    refine Gx.val rfl rfl rfl (val_assign rfl rfl) ?_
    refine Gx.done ?_
    refine Gx.thenN ?_
    refine Gx.ret ?_
    refine Gx.ret1 Try.results28 rfl ?_
    exact congrArg Value.bool (by unfold big; first | rfl | exact (decide_eq_true (by omega)).symm | exact (decide_eq_false (by omega)).symm | exact decide_eq_decide.2 (by omega))
  refine Gx.valg rfl rfl rfl rfl rfl (Val.cast (val_fieldAddr rfl Try.underlying27 rfl Try.ty25 rfl rfl) (v' := ptr b1 5) rfl) ?_
  refine Gx.valg rfl rfl rfl rfl rfl (val_load rfl Try.ty25 rfl rfl (cell_rec (k := 0) rfl rfl)) ?_
  refine Gx.valg rfl rfl rfl rfl rfl (val_len rfl Try.underlying25 rfl (len_base hg)) ?_
  refine Gx.valg rfl rfl rfl rfl rfl (val_gtr rfl rfl rfl) ?_
  refine Gx.val rfl rfl rfl (val_pickF rfl rfl rfl) ?_
  refine Gx.val rfl rfl rfl (val_assign rfl rfl) ?_
  refine Gx.done ?_
  refine Gx.thenN ?_
  refine Gx.ret ?_
  refine Gx.ret1 Try.results28 rfl ?_
  exact congrArg Value.bool (by unfold big; first | rfl | exact (decide_eq_true (by omega)).symm | exact (decide_eq_false (by omega)).symm | exact decide_eq_decide.2 (by omega))

theorem wrong1_any {W : World} {b : Nat} {p n : Int} (hb : b < W.heap.size) (hbc : W.cell? ⟨b, 0, none⟩ = some (.int .i64 n)) : Calls Try.prog 35 #[.int .i64 p, ptr b 0] W fun e w' => e = .returned (.bool (decide (0 ≤ p ∧ p < n))) ∧ Below W.heap.size W w' := by
  refine calls_pure (Gx.enter (l := []) Try.func35 rfl Try.ntmps35 rfl (Sat.start W) ?_)
  refine Gx.know (m' := [(0, .int .i64 p), (1, ptr b 0)]) (.cons rfl (.cons rfl .nil)) ?_
  refine Gx.seq ?_
  refine Gx.region ?_
  refine Gx.val rfl rfl rfl (val_assign rfl rfl) ?_
  refine Gx.done ?_
  refine Gx.thenN ?_
  refine Gx.seq ?_
  refine Gx.region ?_
  refine Gx.val rfl rfl rfl (val_move rfl rfl) ?_
  refine Gx.val rfl rfl rfl (val_geq rfl rfl rfl) ?_
  refine Gx.val rfl rfl rfl (val_move rfl rfl) ?_
  refine Gx.cases (t := 6) rfl (fun h1 => ?_) (fun h1 => ?_)
  · refine Gx.valg rfl rfl rfl rfl rfl (val_move rfl rfl) ?_
    refine Gx.valg rfl rfl rfl rfl rfl (val_load rfl Try.ty3 rfl rfl (cell_old hb hbc)) ?_
    refine Gx.valg rfl rfl rfl rfl rfl (val_lss rfl rfl rfl) ?_
    refine Gx.val rfl rfl rfl (val_pickT rfl rfl rfl) ?_
    refine Gx.val rfl rfl rfl (val_assign rfl rfl) ?_
    refine Gx.done ?_
    refine Gx.thenN ?_
    refine Gx.ret ?_
    refine Gx.ret1 Try.results35 rfl ?_
    exact congrArg Value.bool (by first | rfl | exact (decide_eq_true (by omega)).symm | exact (decide_eq_false (by omega)).symm | exact decide_eq_decide.2 (by omega))
  refine Gx.skipg rfl rfl rfl rfl rfl rfl ?_
  refine Gx.skipg rfl rfl rfl rfl rfl rfl ?_
  refine Gx.skipg rfl rfl rfl rfl rfl rfl ?_
  refine Gx.val rfl rfl rfl (val_pickF rfl rfl rfl) ?_
  refine Gx.val rfl rfl rfl (val_assign rfl rfl) ?_
  refine Gx.done ?_
  refine Gx.thenN ?_
  refine Gx.ret ?_
  refine Gx.ret1 Try.results35 rfl ?_
  exact congrArg Value.bool (by first | rfl | exact (decide_eq_true (by omega)).symm | exact (decide_eq_false (by omega)).symm | exact decide_eq_decide.2 (by omega))

theorem check1_any {W : World} {b : Nat} {p n : Int} (hb : b < W.heap.size) (hbc : W.cell? ⟨b, 0, none⟩ = some (.int .i64 n)) : Calls Try.prog 29 #[.int .i64 p, ptr b 0] W fun e w' => e = .returned (.bool (decide (0 ≤ p ∧ p < n))) ∧ Below W.heap.size W w' := by
  refine calls_pure (Gx.enter (l := []) Try.func29 rfl Try.ntmps29 rfl (Sat.start W) ?_)
  refine Gx.know (m' := [(0, .int .i64 p), (1, ptr b 0)]) (.cons rfl (.cons rfl .nil)) ?_
  refine Gx.seq ?_
  refine Gx.region ?_
  refine Gx.val rfl rfl rfl (val_assign rfl rfl) ?_
  refine Gx.done ?_
  refine Gx.thenN ?_
  refine Gx.seq ?_
  refine Gx.region ?_
  refine Gx.val rfl rfl rfl (val_move rfl rfl) ?_
  refine Gx.val rfl rfl rfl (val_geq rfl rfl rfl) ?_
  refine Gx.val rfl rfl rfl (val_move rfl rfl) ?_
  refine Gx.cases (t := 6) rfl (fun h1 => ?_) (fun h1 => ?_)
  · refine Gx.valg rfl rfl rfl rfl rfl (val_move rfl rfl) ?_
    refine Gx.valg rfl rfl rfl rfl rfl (val_load rfl Try.ty3 rfl rfl (cell_old hb hbc)) ?_
    refine Gx.valg rfl rfl rfl rfl rfl (val_lss rfl rfl rfl) ?_
    refine Gx.val rfl rfl rfl (val_pickT rfl rfl rfl) ?_
    refine Gx.val rfl rfl rfl (val_assign rfl rfl) ?_
    refine Gx.done ?_
    refine Gx.thenN ?_
    refine Gx.ret ?_
    refine Gx.ret1 Try.results29 rfl ?_
    exact congrArg Value.bool (by first | rfl | exact (decide_eq_true (by omega)).symm | exact (decide_eq_false (by omega)).symm | exact decide_eq_decide.2 (by omega))
  refine Gx.skipg rfl rfl rfl rfl rfl rfl ?_
  refine Gx.skipg rfl rfl rfl rfl rfl rfl ?_
  refine Gx.skipg rfl rfl rfl rfl rfl rfl ?_
  refine Gx.val rfl rfl rfl (val_pickF rfl rfl rfl) ?_
  refine Gx.val rfl rfl rfl (val_assign rfl rfl) ?_
  refine Gx.done ?_
  refine Gx.thenN ?_
  refine Gx.ret ?_
  refine Gx.ret1 Try.results29 rfl ?_
  exact congrArg Value.bool (by first | rfl | exact (decide_eq_true (by omega)).symm | exact (decide_eq_false (by omega)).symm | exact decide_eq_decide.2 (by omega))

end Go.Proofs.Ytfpkfbffpkjgbaa
