/- Which key is less; the greatest key of a message. The walks. No condition. -/
import Derived.Test.YtfpdbgalannalaaD1
import Derived.Test.YtfpdbgalannalaaCMP
import Derived.Test.YtfpdbgalannalaaX12
namespace Go.Proofs.Ytfpdbgalannalaa
open Go.RowKit
set_option linter.unusedVariables false
set_option linter.unusedSimpArgs false
set_option maxRecDepth 100000

theorem cmp_b (a b : Int) {w : World} : Calls Try.prog 20 #[.int .i64 a, .int .i64 b] w fun e w' => e = .returned (.int .i64 (cmpI a b)) ∧ Below w.heap.size w w' := (compare_any a b w).mono fun e w' ⟨he, hw⟩ => ⟨he, by rw [← hw]; exact Below.refl _ _⟩
theorem or_b {a b : Int} {W w : World} {g cap : Nat} {R : Hp} (H : Sat W w (Hp.rec_ g [.int .i64 a, .int .i64 b] * R)) : Calls Try.prog 19 #[.slice (some ⟨g, 0, none⟩) 2 cap] w fun e w' => e = .returned (.int .i64 (if a = 0 then b else a)) ∧ Below w.heap.size w w' :=
  (or_two a b g cap w (H.cell 0 rfl) (H.cell 1 rfl)).mono fun e w' ⟨he, hw⟩ => ⟨he, by rw [← hw]; exact Below.refl _ _⟩
theorem comp_any {W : World} (x y : Nat) : Calls Try.prog 18 #[.agg #[.int .i64 ((x / 8 : Nat) : Int), .int .i64 ((x % 8 : Nat) : Int)], .agg #[.int .i64 ((y / 8 : Nat) : Int), .int .i64 ((y % 8 : Nat) : Int)]] W fun e w' => e = .returned (.int .i64 (cmpI (x : Int) (y : Int))) ∧ Below W.heap.size W w' := by
  refine calls_pure (Gx.enter (l := []) Try.func18 rfl Try.ntmps18 rfl (Sat.start W) ?_)
  refine Gx.know (m' := [(0, .agg #[.int .i64 ((x / 8 : Nat) : Int), .int .i64 ((x % 8 : Nat) : Int)]), (1, .agg #[.int .i64 ((y / 8 : Nat) : Int), .int .i64 ((y % 8 : Nat) : Int)])]) (.cons rfl (.cons rfl .nil)) ?_
  refine Gx.seq ?_
  refine Gx.region ?_
  refine Gx.eff rfl rfl rfl (eff_box rfl rfl (vs := [.int .i64 ((x / 8 : Nat) : Int), .int .i64 ((x % 8 : Nat) : Int)]) rfl) ?_
  rintro _ _ ⟨b1, rfl, rfl⟩
  refine Gx.eff rfl rfl rfl (eff_box rfl rfl (vs := [.int .i64 ((y / 8 : Nat) : Int), .int .i64 ((y % 8 : Nat) : Int)]) rfl) ?_
  rintro _ _ ⟨b2, rfl, rfl⟩
  refine Gx.val rfl rfl rfl (val_assign rfl rfl) ?_
  refine Gx.done ?_
  refine Gx.thenN ?_
  refine Gx.seq ?_
  refine Gx.regionO (fun j => false) 10 [0, 1, 2, 3, 4, 5, 6, 7, 8, 9] (fun _ => [Hp.rec_ b2 [.int .i64 ((y / 8 : Nat) : Int), .int .i64 ((y % 8 : Nat) : Int)], Hp.rec_ b1 [.int .i64 ((x / 8 : Nat) : Int), .int .i64 ((x % 8 : Nat) : Int)]]) Try.mixed (by kernel_rfl) rfl ?_
  refine Gw.val rfl rfl rfl rfl rfl (fun us => Val.cast (val_fieldAddr rfl Try.underlying53 rfl Try.ty3 rfl rfl) (v' := ptr b1 0) rfl) ?_
  refine Gw.val0 rfl rfl rfl (by kernel_rfl) rfl rfl (val_load rfl Try.ty3 rfl rfl (cell_rec (k := 1) rfl rfl)) ?_
  refine Gw.val rfl rfl rfl rfl rfl (fun us => Val.cast (val_fieldAddr rfl Try.underlying53 rfl Try.ty3 rfl rfl) (v' := ptr b2 0) rfl) ?_
  refine Gw.val0 rfl rfl rfl (by kernel_rfl) rfl rfl (val_load rfl Try.ty3 rfl rfl (cell_rec (k := 0) rfl rfl)) ?_
  refine Gw.val rfl rfl rfl rfl rfl (fun us => val_call (vs := [.int .i64 ((x / 8 : Nat) : Int), .int .i64 ((y / 8 : Nat) : Int)]) rfl Try.fn20 rfl (fun w H => cmp_b ((x / 8 : Nat) : Int) ((y / 8 : Nat) : Int))) ?_
  refine Gw.val rfl rfl rfl rfl rfl (fun us => Val.cast (val_fieldAddr rfl Try.underlying53 rfl Try.ty3 rfl rfl) (v' := ptr b1 1) rfl) ?_
  refine Gw.val0 rfl rfl rfl (by kernel_rfl) rfl rfl (val_load rfl Try.ty3 rfl rfl (cell_rec (k := 1) rfl rfl)) ?_
  refine Gw.val rfl rfl rfl rfl rfl (fun us => Val.cast (val_fieldAddr rfl Try.underlying53 rfl Try.ty3 rfl rfl) (v' := ptr b2 1) rfl) ?_
  refine Gw.val0 rfl rfl rfl (by kernel_rfl) rfl rfl (val_load rfl Try.ty3 rfl rfl (cell_rec (k := 0) rfl rfl)) ?_
  refine Gw.val rfl rfl rfl rfl rfl (fun us => val_call (vs := [.int .i64 ((x % 8 : Nat) : Int), .int .i64 ((y % 8 : Nat) : Int)]) rfl Try.fn20 rfl (fun w H => cmp_b ((x % 8 : Nat) : Int) ((y % 8 : Nat) : Int))) ?_
  refine Gw.done ?_
  refine Gx.norm (l' := [Hp.rec_ b2 [.int .i64 ((y / 8 : Nat) : Int), .int .i64 ((y % 8 : Nat) : Int)], Hp.rec_ b1 [.int .i64 ((x / 8 : Nat) : Int), .int .i64 ((x % 8 : Nat) : Int)]]) rfl ?_
  refine Gx.eff rfl rfl rfl (eff_buildSlice rfl (qs := [(0, .int .i64 (cmpI ((x / 8 : Nat) : Int) ((y / 8 : Nat) : Int))), (1, .int .i64 (cmpI ((x % 8 : Nat) : Int) ((y % 8 : Nat) : Int)))]) rfl rfl (cs := #[.int .i64 (cmpI ((x / 8 : Nat) : Int) ((y / 8 : Nat) : Int)), .int .i64 (cmpI ((x % 8 : Nat) : Int) ((y % 8 : Nat) : Int))]) (vs := [.int .i64 (cmpI ((x / 8 : Nat) : Int) ((y / 8 : Nat) : Int)), .int .i64 (cmpI ((x % 8 : Nat) : Int) ((y % 8 : Nat) : Int))]) (E := 3) rfl (fun w => by first | (go_simp; done) | (go_simp; rfl))) ?_
  rintro _ _ ⟨b3, rfl, rfl⟩
  refine Gx.val rfl rfl rfl (val_call (vs := [.slice (some ⟨b3, 0, none⟩) 2 2]) rfl Try.fn19 rfl (fun w H => or_b (H.at_ (k := 0) rfl))) ?_
  refine Gx.val rfl rfl rfl (val_assign rfl rfl) ?_
  refine Gx.done ?_
  refine Gx.thenN ?_
  refine Gx.ret ?_
  refine Gx.ret1 Try.results18 rfl ?_
  exact congrArg (Value.int .i64) (by unfold cmpI; (repeat' split) <;> omega)

theorem comp_0 {W : World} (x : Nat) : Calls Try.prog 18 #[.agg #[.int .i64 ((x / 8 : Nat) : Int), .int .i64 ((x % 8 : Nat) : Int)], .agg #[.int .i64 0, .int .i64 0]] W fun e w' => e = .returned (.int .i64 (cmpI (x : Int) ((0 : Nat) : Int))) ∧ Below W.heap.size W w' := comp_any x 0
end Go.Proofs.Ytfpdbgalannalaa
