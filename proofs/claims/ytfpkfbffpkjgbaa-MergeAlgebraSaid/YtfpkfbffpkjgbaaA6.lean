/- Copies that are the same. The walk. No condition. -/
import Derived.Test.YtfpkfbffpkjgbaaA5
namespace Go.Proofs.Ytfpkfbffpkjgbaa
open Go.RowKit
set_option linter.unusedVariables false
set_option linter.unusedSimpArgs false
set_option maxRecDepth 100000

theorem eqSp (a b c d e f : Int) (w : World) : (Op.equal 24 (.agg #[.int .i64 a, .int .i64 b, .int .i64 c]) (.agg #[.int .i64 d, .int .i64 e, .int .i64 f])).run Try.prog w = .ok (decide (a = d ∧ b = e ∧ c = f)) w := by
  unfold Op.equal Op.maxDepth
  rw [show (10000 : Nat) = 9998 + 1 + 1 from rfl, Op.equalIn]
  simp only [Sem.run_bind, run_underlying Try.underlying24, Result.andThen, Sem.run_pure]
  by_cases h1 : a = d <;> by_cases h2 : b = e <;> by_cases h3 : c = f <;> simp [h1, h2, h3] <;> go_simp
theorem Sp.same {x y : Sp} : (x.n = y.n ∧ x.who = y.who ∧ x.val = y.val) ↔ x = y := by
  cases x; cases y; simp
theorem eqSpD {x y : Sp} : decide (x.n = y.n ∧ x.who = y.who ∧ x.val = y.val) = decide (x = y) := decide_eq_decide.2 Sp.same
theorem copies_any {W : World} {cv av gv cw aw gw : Value} {s t : Sp} {xc yc : List Int} {xa xg ya yg : List Dt} (hc : SlS FI 1 W cv xc) (ha : SlS FD 3 W av xa) (hg : SlS FD 3 W gv xg) (hd : SlS FI 1 W cw yc) (hb : SlS FD 3 W aw ya) (hh : SlS FD 3 W gw yg) :
    Calls Try.prog 11 #[.agg #[cv, .int .i64 s.n, .int .i64 s.who, .int .i64 s.val, av, gv], .agg #[cw, .int .i64 t.n, .int .i64 t.who, .int .i64 t.val, aw, gw]] W fun e w' => e = .returned (.bool (decide (xc = yc ∧ s = t ∧ xa = ya ∧ xg = yg))) ∧ Below W.heap.size W w' := by
  refine calls_pure (Gx.enter (l := []) Try.func11 rfl Try.ntmps11 rfl (Sat.start W) ?_)
  refine Gx.know (m' := [(0, .agg #[cv, .int .i64 s.n, .int .i64 s.who, .int .i64 s.val, av, gv]), (1, .agg #[cw, .int .i64 t.n, .int .i64 t.who, .int .i64 t.val, aw, gw])]) (.cons rfl (.cons rfl .nil)) ?_
  refine Gx.seq ?_
  refine Gx.region ?_
  refine Gx.eff rfl rfl rfl (eff_box rfl rfl (vs := [cv, .int .i64 s.n, .int .i64 s.who, .int .i64 s.val, av, gv]) rfl) ?_
  rintro _ _ ⟨b1, rfl, rfl⟩
  refine Gx.eff rfl rfl rfl (eff_box rfl rfl (vs := [cw, .int .i64 t.n, .int .i64 t.who, .int .i64 t.val, aw, gw]) rfl) ?_
  rintro _ _ ⟨b2, rfl, rfl⟩
  refine Gx.val rfl rfl rfl (val_assign rfl rfl) ?_
  refine Gx.done ?_
  refine Gx.thenN ?_
  refine Gx.seq ?_
  refine Gx.region ?_
  refine Gx.val rfl rfl rfl (Val.cast (val_fieldAddr rfl Try.underlying27 rfl Try.ty22 rfl rfl) (v' := ptr b1 0) rfl) ?_
  refine Gx.val rfl rfl rfl (val_load rfl Try.ty22 rfl rfl (cell_rec (k := 1) rfl rfl)) ?_
  refine Gx.val rfl rfl rfl (Val.cast (val_fieldAddr rfl Try.underlying27 rfl Try.ty22 rfl rfl) (v' := ptr b2 0) rfl) ?_
  refine Gx.val rfl rfl rfl (val_load rfl Try.ty22 rfl rfl (cell_rec (k := 0) rfl rfl)) ?_
  refine Gx.val rfl rfl rfl (val_call (vs := [cv, cw]) rfl Try.fn14 rfl (fun w H => longs_any (hc.below H.below) (hd.below H.below))) ?_
  refine Gx.val rfl rfl rfl (val_move rfl rfl) ?_
  refine Gx.cases (t := 10) rfl (fun h3 => ?_) (fun h3 => ?_)
  · refine Gx.valg rfl rfl rfl rfl rfl (Val.cast (val_fieldAddr rfl Try.underlying27 rfl Try.ty24 rfl rfl) (v' := ptr b1 1) rfl) ?_
    refine Gx.valg rfl rfl rfl rfl rfl (Val.cast (val_loadA rfl Try.ty24 rfl rfl (us := [.int .i64 s.n, .int .i64 s.who, .int .i64 s.val]) rfl (cells_rec_at (k := 1) (i := 1) (n := 3) rfl rfl)) (v' := .agg #[.int .i64 s.n, .int .i64 s.who, .int .i64 s.val]) rfl) ?_
    refine Gx.valg rfl rfl rfl rfl rfl (Val.cast (val_fieldAddr rfl Try.underlying27 rfl Try.ty24 rfl rfl) (v' := ptr b2 1) rfl) ?_
    refine Gx.valg rfl rfl rfl rfl rfl (Val.cast (val_loadA rfl Try.ty24 rfl rfl (us := [.int .i64 t.n, .int .i64 t.who, .int .i64 t.val]) rfl (cells_rec_at (k := 0) (i := 1) (n := 3) rfl rfl)) (v' := .agg #[.int .i64 t.n, .int .i64 t.who, .int .i64 t.val]) rfl) ?_
    refine Gx.valg rfl rfl rfl rfl rfl (Val.cast (val_eqlR rfl rfl rfl (by kernel_rfl) (fun w => eqSp _ _ _ _ _ _ w)) (v' := .bool (decide (s = t))) (congrArg Value.bool eqSpD)) ?_
    refine Gx.val rfl rfl rfl (val_pickT rfl rfl rfl) ?_
    refine Gx.val rfl rfl rfl (val_move rfl rfl) ?_
    refine Gx.cases (t := 17) rfl (fun h4 => ?_) (fun h4 => ?_)
    · refine Gx.valg rfl rfl rfl rfl rfl (Val.cast (val_fieldAddr rfl Try.underlying27 rfl Try.ty25 rfl rfl) (v' := ptr b1 4) rfl) ?_
      refine Gx.valg rfl rfl rfl rfl rfl (val_load rfl Try.ty25 rfl rfl (cell_rec (k := 1) rfl rfl)) ?_
      refine Gx.valg rfl rfl rfl rfl rfl (Val.cast (val_fieldAddr rfl Try.underlying27 rfl Try.ty25 rfl rfl) (v' := ptr b2 4) rfl) ?_
      refine Gx.valg rfl rfl rfl rfl rfl (val_load rfl Try.ty25 rfl rfl (cell_rec (k := 0) rfl rfl)) ?_
      refine Gx.valg rfl rfl rfl rfl rfl (val_call (vs := [av, aw]) rfl Try.fn21 rfl (fun w H => dotse_any (ha.below H.below) (hb.below H.below))) ?_
      refine Gx.val rfl rfl rfl (val_pickT rfl rfl rfl) ?_
      refine Gx.val rfl rfl rfl (val_move rfl rfl) ?_
      refine Gx.cases (t := 24) rfl (fun h5 => ?_) (fun h5 => ?_)
      · refine Gx.valg rfl rfl rfl rfl rfl (Val.cast (val_fieldAddr rfl Try.underlying27 rfl Try.ty25 rfl rfl) (v' := ptr b1 5) rfl) ?_
        refine Gx.valg rfl rfl rfl rfl rfl (val_load rfl Try.ty25 rfl rfl (cell_rec (k := 1) rfl rfl)) ?_
        refine Gx.valg rfl rfl rfl rfl rfl (Val.cast (val_fieldAddr rfl Try.underlying27 rfl Try.ty25 rfl rfl) (v' := ptr b2 5) rfl) ?_
        refine Gx.valg rfl rfl rfl rfl rfl (val_load rfl Try.ty25 rfl rfl (cell_rec (k := 0) rfl rfl)) ?_
        refine Gx.valg rfl rfl rfl rfl rfl (val_call (vs := [gv, gw]) rfl Try.fn21 rfl (fun w H => dotse_any (hg.below H.below) (hh.below H.below))) ?_
        refine Gx.val rfl rfl rfl (val_pickT rfl rfl rfl) ?_
        refine Gx.val rfl rfl rfl (val_assign rfl rfl) ?_
        refine Gx.done ?_
        refine Gx.thenN ?_
        refine Gx.ret ?_
        refine Gx.ret1 Try.results11 rfl ?_
        exact congrArg Value.bool (by first | exact (decide_eq_false (fun h => by simp_all)).symm | exact decide_eq_decide.2 (by simp_all))
      refine Gx.skipg rfl rfl rfl rfl rfl rfl ?_
      refine Gx.skipg rfl rfl rfl rfl rfl rfl ?_
      refine Gx.skipg rfl rfl rfl rfl rfl rfl ?_
      refine Gx.skipg rfl rfl rfl rfl rfl rfl ?_
      refine Gx.skipg rfl rfl rfl rfl rfl rfl ?_
      refine Gx.val rfl rfl rfl (val_pickF rfl rfl rfl) ?_
      refine Gx.val rfl rfl rfl (val_assign rfl rfl) ?_
      refine Gx.done ?_
      refine Gx.thenN ?_
      refine Gx.ret ?_
      refine Gx.ret1 Try.results11 rfl ?_
      exact congrArg Value.bool (by first | exact (decide_eq_false (fun h => by simp_all)).symm | exact decide_eq_decide.2 (by simp_all))
    refine Gx.skipg rfl rfl rfl rfl rfl rfl ?_
    refine Gx.skipg rfl rfl rfl rfl rfl rfl ?_
    refine Gx.skipg rfl rfl rfl rfl rfl rfl ?_
    refine Gx.skipg rfl rfl rfl rfl rfl rfl ?_
    refine Gx.skipg rfl rfl rfl rfl rfl rfl ?_
    refine Gx.val rfl rfl rfl (val_pickF rfl rfl rfl) ?_
    refine Gx.val rfl rfl rfl (val_move rfl rfl) ?_
    refine Gx.skipg rfl rfl rfl rfl rfl rfl ?_
    refine Gx.skipg rfl rfl rfl rfl rfl rfl ?_
    refine Gx.skipg rfl rfl rfl rfl rfl rfl ?_
    refine Gx.skipg rfl rfl rfl rfl rfl rfl ?_
    refine Gx.skipg rfl rfl rfl rfl rfl rfl ?_
    refine Gx.val rfl rfl rfl (val_pickF rfl rfl rfl) ?_
    refine Gx.val rfl rfl rfl (val_assign rfl rfl) ?_
    refine Gx.done ?_
    refine Gx.thenN ?_
    refine Gx.ret ?_
    refine Gx.ret1 Try.results11 rfl ?_
    exact congrArg Value.bool (by first | exact (decide_eq_false (fun h => by simp_all)).symm | exact decide_eq_decide.2 (by simp_all))
  refine Gx.skipg rfl rfl rfl rfl rfl rfl ?_
  refine Gx.skipg rfl rfl rfl rfl rfl rfl ?_
  refine Gx.skipg rfl rfl rfl rfl rfl rfl ?_
  refine Gx.skipg rfl rfl rfl rfl rfl rfl ?_
  refine Gx.skipg rfl rfl rfl rfl rfl rfl ?_
  refine Gx.val rfl rfl rfl (val_pickF rfl rfl rfl) ?_
  refine Gx.val rfl rfl rfl (val_move rfl rfl) ?_
  refine Gx.skipg rfl rfl rfl rfl rfl rfl ?_
  refine Gx.skipg rfl rfl rfl rfl rfl rfl ?_
  refine Gx.skipg rfl rfl rfl rfl rfl rfl ?_
  refine Gx.skipg rfl rfl rfl rfl rfl rfl ?_
  refine Gx.skipg rfl rfl rfl rfl rfl rfl ?_
  refine Gx.val rfl rfl rfl (val_pickF rfl rfl rfl) ?_
  refine Gx.val rfl rfl rfl (val_move rfl rfl) ?_
  refine Gx.skipg rfl rfl rfl rfl rfl rfl ?_
  refine Gx.skipg rfl rfl rfl rfl rfl rfl ?_
  refine Gx.skipg rfl rfl rfl rfl rfl rfl ?_
  refine Gx.skipg rfl rfl rfl rfl rfl rfl ?_
  refine Gx.skipg rfl rfl rfl rfl rfl rfl ?_
  refine Gx.val rfl rfl rfl (val_pickF rfl rfl rfl) ?_
  refine Gx.val rfl rfl rfl (val_assign rfl rfl) ?_
  refine Gx.done ?_
  refine Gx.thenN ?_
  refine Gx.ret ?_
  refine Gx.ret1 Try.results11 rfl ?_
  exact congrArg Value.bool (by first | exact (decide_eq_false (fun h => by simp_all)).symm | exact decide_eq_decide.2 (by simp_all))
end Go.Proofs.Ytfpkfbffpkjgbaa
