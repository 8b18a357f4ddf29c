/- Two meetings that are one; a book that pays nothing, or more than it may. The walks. No condition. -/
import Derived.Test.YtfeeociajllbhaaDoorK2
import Derived.Test.YtfeeociajllbhaaDoorW2
namespace Go.Proofs.YtfeeociajllbhaaDoor
open Go.RowKit
set_option linter.unusedVariables false
set_option linter.unusedSimpArgs false
set_option maxRecDepth 100000

theorem sls_nil {α : Type} (f : α → List Value) (sz : Nat) (W : World) : SlS f sz W (.slice none 0 0) [] := ⟨none, 0, rfl, Nat.zero_le _, ⟨fun _ => rfl, Nat.le_refl _⟩, fun j x h => by cases h⟩
theorem eqBlk (a b : Int) (w : World) : (Op.equal 47 (.agg #[.int .i64 a, .int .i64 b]) (.agg #[.int .i64 a, .int .i64 b])).run Tryd.prog w = .ok true w := by
  unfold Op.equal Op.maxDepth
  rw [show (10000 : Nat) = 9998 + 1 + 1 from rfl, Op.equalIn]
  simp only [Sem.run_bind, run_underlying Tryd.underlying47, Result.andThen, Sem.run_pure]
  simp <;> go_simp
theorem codes_yes {W : World} {av bv : Value} {xs : List Int} (hav : SlS Mt.FZ 1 W av xs) (hbv : SlS Mt.FZ 1 W bv xs) :
    Calls Tryd.prog 14 #[av, bv] W fun e w' => e = .returned (.bool true) ∧ Below W.heap.size W w' := by
  have hm9 := sls_bd hav
  refine calls_pure (Gx.enter (l := []) Tryd.func14 rfl Tryd.ntmps14 rfl (Sat.start W) ?_)
  refine Gx.know (m' := [(0, av), (1, bv)]) (.cons rfl (.cons rfl .nil)) ?_
  refine Gx.seq ?_
  refine Gx.region ?_
  refine Gx.val rfl rfl rfl (val_assign rfl rfl) ?_
  refine Gx.done ?_
  refine Gx.thenN ?_
  refine Gx.seq ?_
  refine Gx.seq ?_
  refine Gx.region ?_
  refine Gx.val rfl rfl rfl (val_move rfl rfl) ?_
  refine Gx.val rfl rfl rfl (val_len rfl Tryd.underlying26 rfl (len_base hav)) ?_
  refine Gx.val rfl rfl rfl (val_move rfl rfl) ?_
  refine Gx.val rfl rfl rfl (val_len rfl Tryd.underlying26 rfl (len_base hbv)) ?_
  refine Gx.val rfl rfl rfl (val_neq rfl rfl rfl) ?_
  refine Gx.done ?_
  refine Gx.thenN ?_
  refine Gx.decF rfl (by omega) ?_
  refine Gx.skip ?_
  refine Gx.thenN ?_
  refine Gx.seq ?_
  refine Gx.seq ?_
  refine Gx.region ?_
  refine Gx.val rfl rfl rfl (val_assign rfl rfl) ?_
  refine Gx.done ?_
  refine Gx.thenN ?_
  refine Gx.block ?_
  refine Gx.loop (ι := Nat) (fun ξ => (ξ ≤ xs.length)) (fun ξ => [(0, av), (1, bv), (4, .bool false), (5, .int .i64 ((ξ : Nat) : Int))]) (fun ξ => []) (fun ξ => xs.length - ξ) 0 (by first | omega | (dsimp only; omega)) ((.cons rfl (.cons rfl (.cons rfl (.cons rfl .nil))))) rfl ?_
  rintro i hi
  refine Gx.know (m' := [(0, av), (1, bv), (4, .bool false), (5, .int .i64 ((i : Nat) : Int))]) (.cons rfl (.cons rfl (.cons rfl (.cons rfl .nil)))) (Gx.norm (l' := []) rfl ?_)
  refine Gx.seq ?_
  refine Gx.seq ?_
  refine Gx.region ?_
  refine Gx.val rfl rfl rfl (val_move rfl rfl) ?_
  refine Gx.val rfl rfl rfl (val_move rfl rfl) ?_
  refine Gx.val rfl rfl rfl (val_len rfl Tryd.underlying26 rfl (len_base hav)) ?_
  refine Gx.val rfl rfl rfl (val_lss rfl rfl rfl) ?_
  refine Gx.done ?_
  refine Gx.thenN ?_
  refine Gx.dec rfl (fun h1 => ?_) (fun h1 => ?_)
  · refine Gx.skip ?_
    refine Gx.thenN ?_
    refine Gx.seq ?_
    refine Gx.block ?_
    refine Gx.seq ?_
    obtain ⟨x, hx⟩ := get_of_lt (xs := xs) (k := i) (by omega)
    refine Gx.regionQ Tryd.mixed (by kernel_rfl) ?_
    refine Gq.val rfl rfl rfl (val_move rfl rfl) ?_
    refine Gq.val rfl rfl rfl (val_move rfl rfl) ?_
    refine Gq.val rfl rfl rfl (val_ixa rfl Tryd.underlying26 Tryd.ty31 rfl rfl (j := i) (rfl) (reach_base hav hx)) ?_
    refine Gq.val rfl rfl rfl (val_load rfl Tryd.ty31 rfl rfl (cell_base (i := 0) hav hx rfl)) ?_
    refine Gq.val rfl rfl rfl (val_move rfl rfl) ?_
    refine Gq.val rfl rfl rfl (val_move rfl rfl) ?_
    refine Gq.val rfl rfl rfl (val_ixa rfl Tryd.underlying26 Tryd.ty31 rfl rfl (j := i) (rfl) (reach_base hbv hx)) ?_
    refine Gq.val rfl rfl rfl (val_load rfl Tryd.ty31 rfl rfl (cell_base (i := 0) hbv hx rfl)) ?_
    refine Gq.val rfl rfl rfl (val_neq rfl rfl rfl) ?_
    refine Gq.done ?_
    refine Gx.thenN ?_
    refine Gx.decF rfl (by simp) ?_
    refine Gx.skip ?_
    refine Gx.blkN ?_
    refine Gx.thenN ?_
    refine Gx.region ?_
    refine Gx.val rfl rfl rfl (val_move rfl rfl) ?_
    refine Gx.val rfl rfl rfl (val_add rfl rfl rfl (r := ((i + 1 : Nat) : Int)) (w64 (by omega) (by omega))) ?_
    refine Gx.val rfl rfl rfl (val_assign rfl rfl) ?_
    refine Gx.done ?_
    refine Gx.thenN ?_
    exact Gx.round (i + 1) (by first | omega | (dsimp only; omega)) (by first | omega | (dsimp only; omega)) ((.cons rfl (.cons rfl (.cons rfl (.cons rfl .nil))))) rfl
  · refine Gx.exit ?_
    refine Gx.thenE ?_
    refine Gx.thenE ?_
    refine Gx.blkE ?_
    refine Gx.thenN ?_
    refine Gx.seq ?_
    refine Gx.region ?_
    refine Gx.val rfl rfl rfl (val_assign rfl rfl) ?_
    refine Gx.done ?_
    refine Gx.thenN ?_
    refine Gx.ret ?_
    refine Gx.ret1 Tryd.results14 rfl ?_
    rfl

theorem bools_yes {W : World} {av bv : Value} {xs : List Bool} (hav : SlS Mt.FB 1 W av xs) (hbv : SlS Mt.FB 1 W bv xs) :
    Calls Tryd.prog 15 #[av, bv] W fun e w' => e = .returned (.bool true) ∧ Below W.heap.size W w' := by
  have hm9 := sls_bd hav
  refine calls_pure (Gx.enter (l := []) Tryd.func15 rfl Tryd.ntmps15 rfl (Sat.start W) ?_)
  refine Gx.know (m' := [(0, av), (1, bv)]) (.cons rfl (.cons rfl .nil)) ?_
  refine Gx.seq ?_
  refine Gx.region ?_
  refine Gx.val rfl rfl rfl (val_assign rfl rfl) ?_
  refine Gx.done ?_
  refine Gx.thenN ?_
  refine Gx.seq ?_
  refine Gx.seq ?_
  refine Gx.region ?_
  refine Gx.val rfl rfl rfl (val_move rfl rfl) ?_
  refine Gx.val rfl rfl rfl (val_len rfl Tryd.underlying28 rfl (len_base hav)) ?_
  refine Gx.val rfl rfl rfl (val_move rfl rfl) ?_
  refine Gx.val rfl rfl rfl (val_len rfl Tryd.underlying28 rfl (len_base hbv)) ?_
  refine Gx.val rfl rfl rfl (val_neq rfl rfl rfl) ?_
  refine Gx.done ?_
  refine Gx.thenN ?_
  refine Gx.decF rfl (by omega) ?_
  refine Gx.skip ?_
  refine Gx.thenN ?_
  refine Gx.seq ?_
  refine Gx.seq ?_
  refine Gx.region ?_
  refine Gx.val rfl rfl rfl (val_assign rfl rfl) ?_
  refine Gx.done ?_
  refine Gx.thenN ?_
  refine Gx.block ?_
  refine Gx.loop (ι := Nat) (fun ξ => (ξ ≤ xs.length)) (fun ξ => [(0, av), (1, bv), (4, .bool false), (5, .int .i64 ((ξ : Nat) : Int))]) (fun ξ => []) (fun ξ => xs.length - ξ) 0 (by first | omega | (dsimp only; omega)) ((.cons rfl (.cons rfl (.cons rfl (.cons rfl .nil))))) rfl ?_
  rintro i hi
  refine Gx.know (m' := [(0, av), (1, bv), (4, .bool false), (5, .int .i64 ((i : Nat) : Int))]) (.cons rfl (.cons rfl (.cons rfl (.cons rfl .nil)))) (Gx.norm (l' := []) rfl ?_)
  refine Gx.seq ?_
  refine Gx.seq ?_
  refine Gx.region ?_
  refine Gx.val rfl rfl rfl (val_move rfl rfl) ?_
  refine Gx.val rfl rfl rfl (val_move rfl rfl) ?_
  refine Gx.val rfl rfl rfl (val_len rfl Tryd.underlying28 rfl (len_base hav)) ?_
  refine Gx.val rfl rfl rfl (val_lss rfl rfl rfl) ?_
  refine Gx.done ?_
  refine Gx.thenN ?_
  refine Gx.dec rfl (fun h1 => ?_) (fun h1 => ?_)
  · refine Gx.skip ?_
    refine Gx.thenN ?_
    refine Gx.seq ?_
    refine Gx.block ?_
    refine Gx.seq ?_
    obtain ⟨x, hx⟩ := get_of_lt (xs := xs) (k := i) (by omega)
    refine Gx.regionQ Tryd.mixed (by kernel_rfl) ?_
    refine Gq.val rfl rfl rfl (val_move rfl rfl) ?_
    refine Gq.val rfl rfl rfl (val_move rfl rfl) ?_
    refine Gq.val rfl rfl rfl (val_ixa rfl Tryd.underlying28 Tryd.ty4 rfl rfl (j := i) (rfl) (reach_base hav hx)) ?_
    refine Gq.val rfl rfl rfl (val_load rfl Tryd.ty4 rfl rfl (cell_base (i := 0) hav hx rfl)) ?_
    refine Gq.val rfl rfl rfl (val_move rfl rfl) ?_
    refine Gq.val rfl rfl rfl (val_move rfl rfl) ?_
    refine Gq.val rfl rfl rfl (val_ixa rfl Tryd.underlying28 Tryd.ty4 rfl rfl (j := i) (rfl) (reach_base hbv hx)) ?_
    refine Gq.val rfl rfl rfl (val_load rfl Tryd.ty4 rfl rfl (cell_base (i := 0) hbv hx rfl)) ?_
    refine Gq.val rfl rfl rfl (val_neqB Tryd.underlying4 rfl rfl rfl) ?_
    refine Gq.done ?_
    refine Gx.thenN ?_
    refine Gx.boolF rfl (by simp) ?_
    refine Gx.skip ?_
    refine Gx.blkN ?_
    refine Gx.thenN ?_
    refine Gx.region ?_
    refine Gx.val rfl rfl rfl (val_move rfl rfl) ?_
    refine Gx.val rfl rfl rfl (val_add rfl rfl rfl (r := ((i + 1 : Nat) : Int)) (w64 (by omega) (by omega))) ?_
    refine Gx.val rfl rfl rfl (val_assign rfl rfl) ?_
    refine Gx.done ?_
    refine Gx.thenN ?_
    exact Gx.round (i + 1) (by first | omega | (dsimp only; omega)) (by first | omega | (dsimp only; omega)) ((.cons rfl (.cons rfl (.cons rfl (.cons rfl .nil))))) rfl
  · refine Gx.exit ?_
    refine Gx.thenE ?_
    refine Gx.thenE ?_
    refine Gx.blkE ?_
    refine Gx.thenN ?_
    refine Gx.seq ?_
    refine Gx.region ?_
    refine Gx.val rfl rfl rfl (val_assign rfl rfl) ?_
    refine Gx.done ?_
    refine Gx.thenN ?_
    refine Gx.ret ?_
    refine Gx.ret1 Tryd.results15 rfl ?_
    rfl

theorem meet_yes {W : World} {pa0 pa1 pa2 pa3 qa0 qa1 qa2 qa3 : Option Addr} {pm0 pc0 pm1 pc1 pm2 pc2 pm3 pc3 qm0 qc0 qm1 qc1 qm2 qc2 qm3 qc3 : Nat} {cd : List Int} {bl : List Mt.Bk} {cl ds : List Bool} (hp0 : SlS Mt.FZ 1 W (.slice pa0 pm0 pc0) cd) (hp1 : SlS Mt.FK 2 W (.slice pa1 pm1 pc1) bl) (hp2 : SlS Mt.FB 1 W (.slice pa2 pm2 pc2) cl) (hp3 : SlS Mt.FB 1 W (.slice pa3 pm3 pc3) ds) (hq0 : SlS Mt.FZ 1 W (.slice qa0 qm0 qc0) cd) (hq1 : SlS Mt.FK 2 W (.slice qa1 qm1 qc1) bl) (hq2 : SlS Mt.FB 1 W (.slice qa2 qm2 qc2) cl) (hq3 : SlS Mt.FB 1 W (.slice qa3 qm3 qc3) ds) :
    Calls Tryd.prog 7 #[.agg #[.slice pa0 pm0 pc0, .slice pa1 pm1 pc1, .slice pa2 pm2 pc2, .slice pa3 pm3 pc3], .agg #[.slice qa0 qm0 qc0, .slice qa1 qm1 qc1, .slice qa2 qm2 qc2, .slice qa3 qm3 qc3]] W fun e w' => e = .returned (.bool true) ∧ Below W.heap.size W w' := by
  have hm9 := sls_bd hp1
  refine calls_pure (Gx.enter (l := []) Tryd.func7 rfl Tryd.ntmps7 rfl (Sat.start W) ?_)
  refine Gx.know (m' := [(0, .agg #[.slice pa0 pm0 pc0, .slice pa1 pm1 pc1, .slice pa2 pm2 pc2, .slice pa3 pm3 pc3]), (1, .agg #[.slice qa0 qm0 qc0, .slice qa1 qm1 qc1, .slice qa2 qm2 qc2, .slice qa3 qm3 qc3])]) (.cons rfl (.cons rfl .nil)) ?_
  refine Gx.seq ?_
  refine Gx.region ?_
  refine Gx.eff rfl rfl rfl (eff_box rfl rfl (vs := [.slice pa0 pm0 pc0, .slice pa1 pm1 pc1, .slice pa2 pm2 pc2, .slice pa3 pm3 pc3]) rfl) ?_
  rintro _ _ ⟨b1, rfl, rfl⟩
  refine Gx.eff rfl rfl rfl (eff_box rfl rfl (vs := [.slice qa0 qm0 qc0, .slice qa1 qm1 qc1, .slice qa2 qm2 qc2, .slice qa3 qm3 qc3]) rfl) ?_
  rintro _ _ ⟨b2, rfl, rfl⟩
  refine Gx.val rfl rfl rfl (val_assign rfl rfl) ?_
  refine Gx.done ?_
  refine Gx.thenN ?_
  refine Gx.seq ?_
  refine Gx.seq ?_
  refine Gx.region ?_
  refine Gx.val rfl rfl rfl (Val.cast (val_fieldAddr rfl Tryd.underlying30 rfl Tryd.ty26 rfl rfl) (v' := ptr b1 0) rfl) ?_
  refine Gx.val rfl rfl rfl (val_load rfl Tryd.ty26 rfl rfl (cell_rec (k := 1) rfl rfl)) ?_
  refine Gx.val rfl rfl rfl (Val.cast (val_fieldAddr rfl Tryd.underlying30 rfl Tryd.ty26 rfl rfl) (v' := ptr b2 0) rfl) ?_
  refine Gx.val rfl rfl rfl (val_load rfl Tryd.ty26 rfl rfl (cell_rec (k := 0) rfl rfl)) ?_
  refine Gx.val rfl rfl rfl (val_call (vs := [.slice pa0 pm0 pc0, .slice qa0 qm0 qc0]) rfl Tryd.fn14 rfl (fun w H => codes_yes (hp0.below H.below) (hq0.below H.below))) ?_
  refine Gx.val rfl rfl rfl (Val.cast (val_not rfl rfl) (v' := .bool false) rfl) ?_
  refine Gx.val rfl rfl rfl (val_move rfl rfl) ?_
  refine Gx.valg rfl rfl rfl rfl rfl (Val.cast (val_fieldAddr rfl Tryd.underlying30 rfl Tryd.ty28 rfl rfl) (v' := ptr b1 2) rfl) ?_
  refine Gx.valg rfl rfl rfl rfl rfl (val_load rfl Tryd.ty28 rfl rfl (cell_rec (k := 1) rfl rfl)) ?_
  refine Gx.valg rfl rfl rfl rfl rfl (Val.cast (val_fieldAddr rfl Tryd.underlying30 rfl Tryd.ty28 rfl rfl) (v' := ptr b2 2) rfl) ?_
  refine Gx.valg rfl rfl rfl rfl rfl (val_load rfl Tryd.ty28 rfl rfl (cell_rec (k := 0) rfl rfl)) ?_
  refine Gx.valg rfl rfl rfl rfl rfl (val_call (vs := [.slice pa2 pm2 pc2, .slice qa2 qm2 qc2]) rfl Tryd.fn15 rfl (fun w H => bools_yes (hp2.below H.below) (hq2.below H.below))) ?_
  refine Gx.valg rfl rfl rfl rfl rfl (Val.cast (val_not rfl rfl) (v' := .bool false) rfl) ?_
  refine Gx.val rfl rfl rfl (val_pickF rfl rfl rfl) ?_
  refine Gx.val rfl rfl rfl (val_move rfl rfl) ?_
  refine Gx.valg rfl rfl rfl rfl rfl (Val.cast (val_fieldAddr rfl Tryd.underlying30 rfl Tryd.ty28 rfl rfl) (v' := ptr b1 3) rfl) ?_
  refine Gx.valg rfl rfl rfl rfl rfl (val_load rfl Tryd.ty28 rfl rfl (cell_rec (k := 1) rfl rfl)) ?_
  refine Gx.valg rfl rfl rfl rfl rfl (Val.cast (val_fieldAddr rfl Tryd.underlying30 rfl Tryd.ty28 rfl rfl) (v' := ptr b2 3) rfl) ?_
  refine Gx.valg rfl rfl rfl rfl rfl (val_load rfl Tryd.ty28 rfl rfl (cell_rec (k := 0) rfl rfl)) ?_
  refine Gx.valg rfl rfl rfl rfl rfl (val_call (vs := [.slice pa3 pm3 pc3, .slice qa3 qm3 qc3]) rfl Tryd.fn15 rfl (fun w H => bools_yes (hp3.below H.below) (hq3.below H.below))) ?_
  refine Gx.valg rfl rfl rfl rfl rfl (Val.cast (val_not rfl rfl) (v' := .bool false) rfl) ?_
  refine Gx.val rfl rfl rfl (val_pickF rfl rfl rfl) ?_
  refine Gx.val rfl rfl rfl (val_move rfl rfl) ?_
  refine Gx.valg rfl rfl rfl rfl rfl (Val.cast (val_fieldAddr rfl Tryd.underlying30 rfl Tryd.ty27 rfl rfl) (v' := ptr b1 1) rfl) ?_
  refine Gx.valg rfl rfl rfl rfl rfl (val_load rfl Tryd.ty27 rfl rfl (cell_rec (k := 1) rfl rfl)) ?_
  refine Gx.valg rfl rfl rfl rfl rfl (val_len rfl Tryd.underlying27 rfl (len_base hp1)) ?_
  refine Gx.valg rfl rfl rfl rfl rfl (Val.cast (val_fieldAddr rfl Tryd.underlying30 rfl Tryd.ty27 rfl rfl) (v' := ptr b2 1) rfl) ?_
  refine Gx.valg rfl rfl rfl rfl rfl (val_load rfl Tryd.ty27 rfl rfl (cell_rec (k := 0) rfl rfl)) ?_
  refine Gx.valg rfl rfl rfl rfl rfl (val_len rfl Tryd.underlying27 rfl (len_base hq1)) ?_
  refine Gx.valg rfl rfl rfl rfl rfl (val_neq rfl rfl rfl) ?_
  refine Gx.val rfl rfl rfl (val_pickF rfl rfl rfl) ?_
  refine Gx.done ?_
  refine Gx.thenN ?_
  refine Gx.decF rfl (by first | rfl | omega | simp) ?_
  refine Gx.skip ?_
  refine Gx.thenN ?_
  refine Gx.seq ?_
  refine Gx.seq ?_
  refine Gx.region ?_
  refine Gx.val rfl rfl rfl (val_assign rfl rfl) ?_
  refine Gx.done ?_
  refine Gx.thenN ?_
  refine Gx.block ?_
  refine Gx.loop (ι := Nat) (fun ξ => (ξ ≤ bl.length)) (fun ξ => [(2, ptr b1 0), (3, ptr b2 0), (4, .bool false), (5, .int .i64 ((ξ : Nat) : Int))]) (fun ξ => [Hp.rec_ b2 [.slice qa0 qm0 qc0, .slice qa1 qm1 qc1, .slice qa2 qm2 qc2, .slice qa3 qm3 qc3], Hp.rec_ b1 [.slice pa0 pm0 pc0, .slice pa1 pm1 pc1, .slice pa2 pm2 pc2, .slice pa3 pm3 pc3]]) (fun ξ => bl.length - ξ) 0 (by first | omega | (dsimp only; omega)) ((.cons rfl (.cons rfl (.cons rfl (.cons rfl .nil))))) rfl ?_
  rintro i hi
  refine Gx.know (m' := [(2, ptr b1 0), (3, ptr b2 0), (4, .bool false), (5, .int .i64 ((i : Nat) : Int))]) (.cons rfl (.cons rfl (.cons rfl (.cons rfl .nil)))) (Gx.norm (l' := [Hp.rec_ b2 [.slice qa0 qm0 qc0, .slice qa1 qm1 qc1, .slice qa2 qm2 qc2, .slice qa3 qm3 qc3], Hp.rec_ b1 [.slice pa0 pm0 pc0, .slice pa1 pm1 pc1, .slice pa2 pm2 pc2, .slice pa3 pm3 pc3]]) rfl ?_)
  refine Gx.seq ?_
  refine Gx.seq ?_
  refine Gx.region ?_
  refine Gx.val rfl rfl rfl (val_move rfl rfl) ?_
  refine Gx.val rfl rfl rfl (Val.cast (val_fieldAddr rfl Tryd.underlying30 rfl Tryd.ty27 rfl rfl) (v' := ptr b1 1) rfl) ?_
  refine Gx.val rfl rfl rfl (val_load rfl Tryd.ty27 rfl rfl (cell_rec (k := 1) rfl rfl)) ?_
  refine Gx.val rfl rfl rfl (val_len rfl Tryd.underlying27 rfl (len_base hp1)) ?_
  refine Gx.val rfl rfl rfl (val_lss rfl rfl rfl) ?_
  refine Gx.done ?_
  refine Gx.thenN ?_
  refine Gx.dec rfl (fun h3 => ?_) (fun h3 => ?_)
  · refine Gx.skip ?_
    refine Gx.thenN ?_
    refine Gx.seq ?_
    refine Gx.block ?_
    refine Gx.seq ?_
    obtain ⟨x, hx⟩ := get_of_lt (xs := bl) (k := i) (by omega)
    refine Gx.regionQ Tryd.mixed (by kernel_rfl) ?_
    refine Gq.val rfl rfl rfl (Val.cast (val_fieldAddr rfl Tryd.underlying30 rfl Tryd.ty27 rfl rfl) (v' := ptr b1 1) rfl) ?_
    refine Gq.val rfl rfl rfl (val_load rfl Tryd.ty27 rfl rfl (cell_rec (k := 1) rfl rfl)) ?_
    refine Gq.val rfl rfl rfl (val_move rfl rfl) ?_
    refine Gq.val rfl rfl rfl (val_ixa rfl Tryd.underlying27 Tryd.ty47 rfl rfl (j := i) (rfl) (reach_base hp1 hx)) ?_
    refine Gq.val rfl rfl rfl (Val.cast (val_loadA rfl Tryd.ty47 rfl rfl rfl (cells_base hp1 hx)) (v' := .agg #[.int .i64 x.par, .int .i64 ((x.rnd : Nat) : Int)]) rfl) ?_
    refine Gq.val rfl rfl rfl (Val.cast (val_fieldAddr rfl Tryd.underlying30 rfl Tryd.ty27 rfl rfl) (v' := ptr b2 1) rfl) ?_
    refine Gq.val rfl rfl rfl (val_load rfl Tryd.ty27 rfl rfl (cell_rec (k := 0) rfl rfl)) ?_
    refine Gq.val rfl rfl rfl (val_move rfl rfl) ?_
    refine Gq.val rfl rfl rfl (val_ixa rfl Tryd.underlying27 Tryd.ty47 rfl rfl (j := i) (rfl) (reach_base hq1 hx)) ?_
    refine Gq.val rfl rfl rfl (Val.cast (val_loadA rfl Tryd.ty47 rfl rfl rfl (cells_base hq1 hx)) (v' := .agg #[.int .i64 x.par, .int .i64 ((x.rnd : Nat) : Int)]) rfl) ?_
    refine Gq.val rfl rfl rfl (Val.cast (val_neqR rfl rfl rfl (by kernel_rfl) (fun w => eqBlk _ _ w)) (v' := .bool false) (by simp)) ?_
    refine Gq.done ?_
    refine Gx.thenN ?_
    refine Gx.f rfl ?_
    refine Gx.skip ?_
    refine Gx.blkN ?_
    refine Gx.thenN ?_
    refine Gx.region ?_
    refine Gx.val rfl rfl rfl (val_move rfl rfl) ?_
    refine Gx.val rfl rfl rfl (val_add rfl rfl rfl (r := ((i + 1 : Nat) : Int)) (w64 (by omega) (by omega))) ?_
    refine Gx.val rfl rfl rfl (val_assign rfl rfl) ?_
    refine Gx.done ?_
    refine Gx.thenN ?_
    exact Gx.round (i + 1) (by first | omega | (dsimp only; omega)) (by first | omega | (dsimp only; omega)) ((.cons rfl (.cons rfl (.cons rfl (.cons rfl .nil))))) rfl
  · refine Gx.exit ?_
    refine Gx.thenE ?_
    refine Gx.thenE ?_
    refine Gx.blkE ?_
    refine Gx.thenN ?_
    refine Gx.seq ?_
    refine Gx.region ?_
    refine Gx.val rfl rfl rfl (val_assign rfl rfl) ?_
    refine Gx.done ?_
    refine Gx.thenN ?_
    refine Gx.ret ?_
    refine Gx.ret1 Tryd.results7 rfl ?_
    rfl

/-- the code of what is refused -/
def codeM (k f : Int) (cs : List Mt.Sy) : Int := if k < 1 ∨ 7 < k ∨ 120 < (cs.length : Int) then 1 else if f < 0 ∨ ((k.toNat - 1) / 3 : Nat) < f then 3 else 2
theorem codeM_ne (k f : Int) (cs : List Mt.Sy) : codeM k f cs ≠ 0 := by unfold codeM; split <;> (try split) <;> decide
theorem play_at {W : World} {k f : Int} {L : Nat} {sv : Value} {cs : List Mt.Sy} (hs : SlS Mt.FM 5 W sv cs) (hbad : ¬ Mt.Valid k f L cs) :
    Calls Tryd.prog 4 #[.int .i64 k, .int .i64 f, .int .u32 ((L : Nat) : Int), sv] W fun e w' => e = .returned (.tuple #[.agg #[.slice none 0 0, .slice none 0 0, .slice none 0 0, .slice none 0 0], .int .i64 (codeM k f cs)]) ∧ Below W.heap.size W w' := by
  unfold codeM
  by_cases h1 : k < 1 ∨ 7 < k ∨ 120 < (cs.length : Int)
  · rw [if_pos h1]; exact Mt.play_no1 hs h1
  rw [if_neg h1]
  obtain ⟨n, rfl⟩ : ∃ n : Nat, k = (n : Int) := ⟨k.toNat, by omega⟩
  rw [Int.toNat_natCast]
  by_cases h2 : f < 0 ∨ ((n - 1) / 3 : Nat) < f
  · rw [if_pos h2]; exact Mt.play_no3 hs (by omega) (by omega) (by omega) h2
  rw [if_neg h2]
  obtain ⟨f', rfl⟩ : ∃ f' : Nat, f = (f' : Int) := ⟨f.toNat, by omega⟩
  refine Mt.play_no2 hs (by omega) (by omega) (by omega) (by omega) ?_
  intro h3
  exact hbad ⟨by omega, by omega, by omega, by omega, by rw [Int.toNat_natCast]; omega, by rw [Int.toNat_natCast]; exact h3⟩
theorem book_at {W : World} {k f : Int} {L : Nat} {sv mv pv : Value} {cs : List Mt.Sy} (hs : SlS Mt.FM 5 W sv cs) (hbad : ¬ Mt.Valid k f L cs) :
    Calls Tryd.prog 5 #[.int .i64 k, .int .i64 f, .int .u32 ((L : Nat) : Int), sv, mv, pv] W fun e w' => e = .returned (.tuple #[.agg #[.slice none 0 0, .slice none 0 0, .slice none 0 0, .slice none 0 0, .slice none 0 0, .slice none 0 0, .slice none 0 0], .int .i64 (codeM k f cs)]) ∧ Below W.heap.size W w' := by
  refine calls_pure (Gx.enter (l := []) Tryd.func5 rfl Tryd.ntmps5 rfl (Sat.start W) ?_)
  refine Gx.know (m' := [(0, .int .i64 k), (1, .int .i64 f), (2, .int .u32 ((L : Nat) : Int)), (3, sv), (4, mv), (5, pv)]) (.cons rfl (.cons rfl (.cons rfl (.cons rfl (.cons rfl (.cons rfl .nil)))))) ?_
  refine Gx.seq ?_
  refine Gx.region ?_
  refine Gx.eff rfl rfl rfl (eff_alloc rfl Tryd.ty37 (vs := [.slice none 0 0, .slice none 0 0, .slice none 0 0, .slice none 0 0, .slice none 0 0, .slice none 0 0, .slice none 0 0]) rfl) ?_
  rintro _ _ ⟨b1, rfl, rfl⟩
  refine Gx.val rfl rfl rfl (val_assign rfl rfl) ?_
  refine Gx.done ?_
  refine Gx.thenN ?_
  refine Gx.seq ?_
  refine Gx.region ?_
  refine Gx.val rfl rfl rfl (val_move rfl rfl) ?_
  refine Gx.val rfl rfl rfl (val_move rfl rfl) ?_
  refine Gx.val rfl rfl rfl (val_move rfl rfl) ?_
  refine Gx.val rfl rfl rfl (val_move rfl rfl) ?_
  refine Gx.val rfl rfl rfl (val_call (vs := [.int .i64 k, .int .i64 f, .int .u32 ((L : Nat) : Int), sv]) rfl Tryd.fn4 rfl (fun w H => play_at (hs.below H.below) hbad)) ?_
  refine Gx.val rfl rfl rfl (val_move rfl rfl) ?_
  refine Gx.val rfl rfl rfl (val_extract rfl rfl rfl) ?_
  refine Gx.val rfl rfl rfl (val_extract rfl rfl rfl) ?_
  refine Gx.eff rfl rfl rfl (eff_alloc rfl Tryd.ty30 (vs := [.slice none 0 0, .slice none 0 0, .slice none 0 0, .slice none 0 0]) rfl) ?_
  rintro _ _ ⟨b2, rfl, rfl⟩
  refine Gx.eff0 rfl rfl (eff_store rfl Tryd.ty30 rfl rfl (us := [.slice none 0 0, .slice none 0 0, .slice none 0 0, .slice none 0 0]) rfl rfl rfl (k := 0) rfl (rfl) (vs' := [.slice none 0 0, .slice none 0 0, .slice none 0 0, .slice none 0 0]) (rfl) (l' := [Hp.rec_ b2 [.slice none 0 0, .slice none 0 0, .slice none 0 0, .slice none 0 0], Hp.rec_ b1 [.slice none 0 0, .slice none 0 0, .slice none 0 0, .slice none 0 0, .slice none 0 0, .slice none 0 0, .slice none 0 0]]) rfl) ?_
  rintro _ _ rfl
  refine Gx.val rfl rfl rfl (val_assign rfl rfl) ?_
  refine Gx.done ?_
  refine Gx.thenN ?_
  refine Gx.seq ?_
  refine Gx.seq ?_
  refine Gx.region ?_
  refine Gx.val rfl rfl rfl (val_move rfl rfl) ?_
  refine Gx.val rfl rfl rfl (val_neq rfl rfl rfl) ?_
  refine Gx.done ?_
  refine Gx.thenN ?_
  refine Gx.decT rfl (codeM_ne _ _ _) ?_
  refine Gx.seq ?_
  refine Gx.region ?_
  refine Gx.val rfl rfl rfl (val_build rfl (qs := []) rfl rfl (fun w => by go_simp) (v := .agg #[.slice none 0 0, .slice none 0 0, .slice none 0 0, .slice none 0 0, .slice none 0 0, .slice none 0 0, .slice none 0 0])) ?_
  refine Gx.val rfl rfl rfl (val_move rfl rfl) ?_
  refine Gx.eff0 rfl rfl (eff_store rfl Tryd.ty37 rfl rfl (us := [.slice none 0 0, .slice none 0 0, .slice none 0 0, .slice none 0 0, .slice none 0 0, .slice none 0 0, .slice none 0 0]) rfl rfl rfl (k := 1) rfl (rfl) (vs' := [.slice none 0 0, .slice none 0 0, .slice none 0 0, .slice none 0 0, .slice none 0 0, .slice none 0 0, .slice none 0 0]) (rfl) (l' := [Hp.rec_ b2 [.slice none 0 0, .slice none 0 0, .slice none 0 0, .slice none 0 0], Hp.rec_ b1 [.slice none 0 0, .slice none 0 0, .slice none 0 0, .slice none 0 0, .slice none 0 0, .slice none 0 0, .slice none 0 0]]) rfl) ?_
  rintro _ _ rfl
  refine Gx.val rfl rfl rfl (val_assign rfl rfl) ?_
  refine Gx.done ?_
  refine Gx.thenN ?_
  refine Gx.ret ?_
  refine Gx.thenR ?_
  refine Gx.retC2 Tryd.results5 Tryd.ty37 rfl rfl (us := [.slice none 0 0, .slice none 0 0, .slice none 0 0, .slice none 0 0, .slice none 0 0, .slice none 0 0, .slice none 0 0]) rfl (k := 1) rfl rfl ?_
  rfl

theorem book_two {W : World} {c : Mt.MC} {f : Nat} {sv mv pv : Value} {cs : List Mt.Sy} {money : List Int} {pays : List Row} {ds : List Bool} (hg : Lg.HG W) (hs : SlS Mt.FM 5 W sv cs) (hm : SlS Lg.FM 1 W mv money) (hp : SlS FW 1 W pv pays) (hrows : ∀ r ∈ pays, SlS Lg.FP 4 W (.slice r.a r.xs.length r.c) r.xs) (hsz : ∀ r ∈ pays, r.xs.length ≤ 1048576) (h1n : 1 ≤ c.n) (h7n : c.n ≤ 7) (hcl : cs.length ≤ 120) (hf : f ≤ (c.n - 1) / 3) (hfn : c.need + f = c.n) (hLn : c.L >>> c.n = 0) (hL : c.L < 4294967296) (hds : Chn.IsDec (Mt.blsP (Mt.stM c (Mt.ms0 c.n) cs).bl) (Mt.certL c (Mt.stM c (Mt.ms0 c.n) cs)) (Mt.stM c (Mt.ms0 c.n) cs).bl.length ds) (hok : Lg.OkL money 0) :
    Calls Tryd.prog 5 #[.int .i64 ((c.n : Nat) : Int), .int .i64 ((f : Nat) : Int), .int .u32 ((c.L : Nat) : Int), sv, mv, pv] W fun e w' => ∃ v, e = .returned v ∧ (∃ (c0 c1 c2 c3 c4 c5 c6 : Value) (z : Int), v = .tuple #[.agg #[c0, c1, c2, c3, c4, c5, c6], .int .i64 z] ∧ (IsS c0 ∧ IsS c1 ∧ IsS c2 ∧ IsS c3 ∧ IsS c4 ∧ IsS c5 ∧ IsS c6) ∧ (z = 7 ∨ z = 0 ∧ SlS Mt.FZ 1 w' c0 (Mt.codesM c (Mt.ms0 c.n) cs) ∧ SlS Mt.FK 2 w' c1 (Mt.stM c (Mt.ms0 c.n) cs).bl ∧ SlS Mt.FB 1 w' c2 (Mt.certL c (Mt.stM c (Mt.ms0 c.n) cs)) ∧ SlS Mt.FB 1 w' c3 ds ∧ SlS Lg.FP 4 w' c4 (paysB (Mt.stM c (Mt.ms0 c.n) cs).bl ds pays) ∧ SlS Lg.FZ 1 w' c5 (Lg.codesL (Lg.start0 money) (paysB (Mt.stM c (Mt.ms0 c.n) cs).bl ds pays)) ∧ SlS Lg.FA 2 w' c6 (Lg.accsL (Lg.start0 money) (paysB (Mt.stM c (Mt.ms0 c.n) cs).bl ds pays)))) ∧ Below W.heap.size W w' := by
  have nil : IsS (.slice none 0 0) := ⟨none, 0, 0, rfl⟩
  by_cases hbig : (paysB (Mt.stM c (Mt.ms0 c.n) cs).bl ds pays).length ≤ 60
  · exact (book_yes hg hs h1n h7n hcl hf hfn hLn hL hm hp hrows hsz hds hbig ⟨hok.low, hok.high, by omega, hok.all⟩).mono fun e w' ⟨v, he, ⟨c0, c1, c2, c3, c4, c5, c6, hv, f0, f1, f2, f3, f4, f5, f6⟩, hb⟩ => ⟨v, he, ⟨c0, c1, c2, c3, c4, c5, c6, 0, hv, ⟨f0.isS, f1.isS, f2.isS, f3.isS, f4.isS, f5.isS, f6.isS⟩, .inr ⟨rfl, f0, f1, f2, f3, f4, f5, f6⟩⟩, hb⟩
  · exact (book_full hg hs h1n h7n hcl hf hfn hLn hL hm hp hrows hsz hds (by omega)).mono fun e w' ⟨he, hb⟩ => ⟨_, he, ⟨_, _, _, _, _, _, _, 7, rfl, ⟨nil, nil, nil, nil, nil, nil, nil⟩, .inl rfl⟩, hb⟩
theorem book_none {W : World} {c : Mt.MC} {f : Nat} {sv mv pv : Value} {cs : List Mt.Sy} {money : List Int} {pays : List Row} {ds : List Bool} (hg : Lg.HG W) (hs : SlS Mt.FM 5 W sv cs) (hm : SlS Lg.FM 1 W mv money) (hp : SlS FW 1 W pv pays) (hrows : ∀ r ∈ pays, SlS Lg.FP 4 W (.slice r.a r.xs.length r.c) r.xs) (hsz : ∀ r ∈ pays, r.xs.length ≤ 1048576) (h1n : 1 ≤ c.n) (h7n : c.n ≤ 7) (hcl : cs.length ≤ 120) (hf : f ≤ (c.n - 1) / 3) (hfn : c.need + f = c.n) (hLn : c.L >>> c.n = 0) (hL : c.L < 4294967296) (hds : Chn.IsDec (Mt.blsP (Mt.stM c (Mt.ms0 c.n) cs).bl) (Mt.certL c (Mt.stM c (Mt.ms0 c.n) cs)) (Mt.stM c (Mt.ms0 c.n) cs).bl.length ds) (hno : ¬ Lg.OkL money 0) :
    Calls Tryd.prog 5 #[.int .i64 ((c.n : Nat) : Int), .int .i64 ((f : Nat) : Int), .int .u32 ((c.L : Nat) : Int), sv, mv, pv] W fun e w' => ∃ v, e = .returned v ∧ (∃ z : Int, z ≠ 0 ∧ v = .tuple #[.agg #[.slice none 0 0, .slice none 0 0, .slice none 0 0, .slice none 0 0, .slice none 0 0, .slice none 0 0, .slice none 0 0], .int .i64 z]) ∧ Below W.heap.size W w' := by
  by_cases hbig : (paysB (Mt.stM c (Mt.ms0 c.n) cs).bl ds pays).length ≤ 60
  · exact book_mon hg hs h1n h7n hcl hf hfn hLn hL hm hp hrows hsz hds hbig (fun h => hno ⟨h.low, h.high, by omega, h.all⟩)
  · exact (book_full hg hs h1n h7n hcl hf hfn hLn hL hm hp hrows hsz hds (by omega)).mono fun e w' ⟨he, hb⟩ => ⟨_, he, ⟨7, by decide, rfl⟩, hb⟩
theorem pays_nil (bl : List Mt.Bk) (ds : List Bool) : paysB bl ds [] = [] := by
  unfold paysB
  split
  · rfl
  · unfold paidL paysAt
    rw [List.flatMap_eq_nil_iff]
    intro x _
    rfl
end Go.Proofs.YtfeeociajllbhaaDoor
