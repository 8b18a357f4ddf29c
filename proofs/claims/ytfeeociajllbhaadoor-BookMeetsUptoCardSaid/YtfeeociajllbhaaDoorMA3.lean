/- Is a number a block; is a block certified? The walks. No condition. -/
import Derived.Test.YtfeeociajllbhaaDoorMD3
import Derived.Test.YtfeeociajllbhaaDoorMA2
namespace Go.Proofs.YtfeeociajllbhaaDoor.Mt
open Go.RowKit
set_option linter.unusedVariables false
set_option linter.unusedSimpArgs false
set_option maxRecDepth 100000

theorem block_any {W : World} {S : Nat} {b : Int} {bv : Value} {bl : List Bk} (hb : S < W.heap.size) (h_bl : W.cell? ⟨S, 3, none⟩ = some (bv)) (hs : SlS FK 2 W bv bl) : Calls Tryd.prog 30 #[ptr S 0, .int .i64 b] W fun e w' => e = .returned (.bool (isN bl.length b)) ∧ Below W.heap.size W w' := by
  refine calls_pure (Gx.enter (l := []) Tryd.func30 rfl Tryd.ntmps30 rfl (Sat.start W) ?_)
  refine Gx.know (m' := [(0, ptr S 0), (1, .int .i64 b)]) (.cons rfl (.cons rfl .nil)) ?_
  refine Gx.seq ?_
  refine Gx.region ?_
  refine Gx.val rfl rfl rfl (val_assign rfl rfl) ?_
  refine Gx.done ?_
  refine Gx.thenN ?_
  refine Gx.seq ?_
  refine Gx.region ?_
  refine Gx.val rfl rfl rfl (val_move rfl rfl) ?_
  refine Gx.val rfl rfl rfl (val_geq rfl rfl rfl) ?_
  refine Gx.val rfl rfl rfl (val_move rfl rfl) ?_
  refine Gx.cases (t := 7) rfl (fun h1 => ?_) (fun h1 => ?_)
  · refine Gx.valg rfl rfl rfl rfl rfl (val_move rfl rfl) ?_
    refine Gx.valg rfl rfl rfl rfl rfl (val_move rfl rfl) ?_
    refine Gx.valg rfl rfl rfl rfl rfl (val_nilCheck rfl rfl) ?_
    refine Gx.valg rfl rfl rfl rfl rfl (Val.cast (val_fieldAddr rfl Tryd.underlying53 rfl Tryd.ty27 rfl rfl) (v' := ptr S 3) rfl) ?_
    refine Gx.valg rfl rfl rfl rfl rfl (val_load rfl Tryd.ty27 rfl rfl (cell_old hb h_bl)) ?_
    refine Gx.valg rfl rfl rfl rfl rfl (val_len rfl Tryd.underlying27 rfl (len_base hs)) ?_
    refine Gx.valg rfl rfl rfl rfl rfl (val_lss rfl rfl rfl) ?_
    refine Gx.val rfl rfl rfl (val_pickT rfl rfl rfl) ?_
    refine Gx.val rfl rfl rfl (val_assign rfl rfl) ?_
    refine Gx.done ?_
    refine Gx.thenN ?_
    refine Gx.ret ?_
    refine Gx.ret1 Tryd.results30 rfl ?_
    exact congrArg Value.bool (bool_of (by rw [isN_iff]; omega))
  · refine Gx.skipg rfl rfl rfl rfl rfl rfl ?_
    refine Gx.skipg rfl rfl rfl rfl rfl rfl ?_
    refine Gx.skipg rfl rfl rfl rfl rfl rfl ?_
    refine Gx.skipg rfl rfl rfl rfl rfl rfl ?_
    refine Gx.skipg rfl rfl rfl rfl rfl rfl ?_
    refine Gx.skipg rfl rfl rfl rfl rfl rfl ?_
    refine Gx.skipg rfl rfl rfl rfl rfl rfl ?_
    refine Gx.val rfl rfl rfl (val_pickF rfl rfl rfl) ?_
    refine Gx.val rfl rfl rfl (val_assign rfl rfl) ?_
    refine Gx.done ?_
    refine Gx.thenN ?_
    refine Gx.ret ?_
    refine Gx.ret1 Tryd.results30 rfl ?_
    exact congrArg Value.bool (Bool.eq_false_iff.2 fun q => by have := isN_iff.1 q; omega).symm

theorem cert_any {W : World} {S b : Nat} {c : MC} {vv : Value} {s : MS} (hb : S < W.heap.size) (h_need : W.cell? ⟨S, 1, none⟩ = some (.int .i64 ((c.need : Nat) : Int))) (h_vt : W.cell? ⟨S, 4, none⟩ = some (vv)) (hs : SlS FV 1 W vv s.vt) (hv : ∀ v ∈ s.vt, v < 128) (hbl : b < s.vt.length) : Calls Tryd.prog 9 #[ptr S 0, .int .i64 ((b : Nat) : Int)] W fun e w' => e = .returned (.bool (certM c s b)) ∧ Below W.heap.size W w' := by
  refine calls_pure (Gx.enter (l := []) Tryd.func9 rfl Tryd.ntmps9 rfl (Sat.start W) ?_)
  refine Gx.know (m' := [(0, ptr S 0), (1, .int .i64 ((b : Nat) : Int))]) (.cons rfl (.cons rfl .nil)) ?_
  refine Gx.seq ?_
  refine Gx.region ?_
  refine Gx.val rfl rfl rfl (val_assign rfl rfl) ?_
  refine Gx.done ?_
  refine Gx.thenN ?_
  refine Gx.seq ?_
  refine Gx.regionQ Tryd.mixed (by kernel_rfl) ?_
  refine Gq.val rfl rfl rfl (val_move rfl rfl) ?_
  refine Gq.val rfl rfl rfl (val_eql rfl rfl rfl) ?_
  refine Gq.val rfl rfl rfl (val_move rfl rfl) ?_
  refine Gq.cases (t := 7) rfl (fun h1 => ?_) (fun h1 => ?_)
  · refine Gq.skipg rfl rfl rfl rfl rfl rfl ?_
    refine Gq.skipg rfl rfl rfl rfl rfl rfl ?_
    refine Gq.skipg rfl rfl rfl rfl rfl rfl ?_
    refine Gq.skipg rfl rfl rfl rfl rfl rfl ?_
    refine Gq.skipg rfl rfl rfl rfl rfl rfl ?_
    refine Gq.skipg rfl rfl rfl rfl rfl rfl ?_
    refine Gq.skipg rfl rfl rfl rfl rfl rfl ?_
    refine Gq.skipg rfl rfl rfl rfl rfl rfl ?_
    refine Gq.skipg rfl rfl rfl rfl rfl rfl ?_
    refine Gq.skipg rfl rfl rfl rfl rfl rfl ?_
    refine Gq.skipg rfl rfl rfl rfl rfl rfl ?_
    refine Gq.skipg rfl rfl rfl rfl rfl rfl ?_
    refine Gq.skipg rfl rfl rfl rfl rfl rfl ?_
    refine Gq.val rfl rfl rfl (val_pickT rfl rfl rfl) ?_
    refine Gq.val rfl rfl rfl (val_assign rfl rfl) ?_
    refine Gq.done ?_
    refine Gx.thenN ?_
    refine Gx.ret ?_
    refine Gx.ret1 Tryd.results9 rfl ?_
    exact congrArg Value.bool (by unfold certM; exact (decide_eq_true (.inl (by omega))).symm)
  · obtain ⟨v0, hv0⟩ := get_of_lt (xs := s.vt) (k := b) hbl
    have hv1 : v0 < 128 := hv _ (List.mem_of_getElem? hv0)
    have hv2 : voteM s b = v0 := by unfold voteM; rw [hv0]; rfl
    refine Gq.valg rfl rfl rfl rfl rfl (val_move rfl rfl) ?_
    refine Gq.valg rfl rfl rfl rfl rfl (val_nilCheck rfl rfl) ?_
    refine Gq.valg rfl rfl rfl rfl rfl (Val.cast (val_fieldAddr rfl Tryd.underlying53 rfl Tryd.ty48 rfl rfl) (v' := ptr S 4) rfl) ?_
    refine Gq.valg rfl rfl rfl rfl rfl (val_load rfl Tryd.ty48 rfl rfl (cell_old hb h_vt)) ?_
    refine Gq.valg rfl rfl rfl rfl rfl (val_move rfl rfl) ?_
    refine Gq.valg rfl rfl rfl rfl rfl (val_ixa rfl Tryd.underlying48 Tryd.ty22 rfl rfl (j := b) (rfl) (reach_base hs hv0)) ?_
    refine Gq.valg rfl rfl rfl rfl rfl (val_load rfl Tryd.ty22 rfl rfl (cell_base (i := 0) hs hv0 rfl)) ?_
    refine Gq.valg rfl rfl rfl rfl rfl (val_call (vs := [.int .u32 ((v0 : Nat) : Int)]) rfl Tryd.fn20 rfl (fun w H => pop_any (x := v0) (by first | assumption | omega))) ?_
    refine Gq.valg rfl rfl rfl rfl rfl (val_move rfl rfl) ?_
    refine Gq.valg rfl rfl rfl rfl rfl (val_nilCheck rfl rfl) ?_
    refine Gq.valg rfl rfl rfl rfl rfl (Val.cast (val_fieldAddr rfl Tryd.underlying53 rfl Tryd.ty3 rfl rfl) (v' := ptr S 1) rfl) ?_
    refine Gq.valg rfl rfl rfl rfl rfl (val_load rfl Tryd.ty3 rfl rfl (cell_old hb h_need)) ?_
    refine Gq.valg rfl rfl rfl rfl rfl (val_geq rfl rfl rfl) ?_
    refine Gq.val rfl rfl rfl (val_pickF rfl rfl rfl) ?_
    refine Gq.val rfl rfl rfl (val_assign rfl rfl) ?_
    refine Gq.done ?_
    refine Gx.thenN ?_
    refine Gx.ret ?_
    refine Gx.ret1 Tryd.results9 rfl ?_
    exact congrArg Value.bool (bool_of (by unfold certM; rw [decide_eq_true_iff, hv2]; omega))

end Go.Proofs.YtfeeociajllbhaaDoor.Mt
