/- The maps' keys: two and three numbers. No condition. -/
import Derived.Test.YtfeeociajllbhaaDoorMD1
namespace Go.Proofs.YtfeeociajllbhaaDoor.Mt
open Go.RowKit
set_option linter.unusedVariables false
set_option linter.unusedSimpArgs false
set_option maxRecDepth 100000

theorem Tryd.keyed93 : Maps.Keyed Tryd.prog 93 := Maps.Keyed.of_law (deep_law_laid (m := 2) (by kernel_rfl) (by decide) (of_decide_eq_true (by kernel_rfl)) (by kernel_rfl) (by kernel_rfl))
theorem Tryd.lits93 (d : Nat) (a b : Int) (wa : (Lit.int .i64 a).wf = true) (wb : (Lit.int .i64 b).wf = true) : Tryd.prog.keyLits (d + 2) 93 [.int .i64 a, .int .i64 b] = some [.int .i64 a, .int .i64 b] := by
  unfold Program.keyLits
  rw [Tryd.underlying93]
  dsimp only
  first
  | (rw [if_pos ⟨by kernel_rfl, by kernel_rfl⟩]
     simp only [show Tryd.prog.cellsOf 3 = 1 from by kernel_rfl, List.mapM_cons, List.mapM_nil, List.drop_zero, List.drop_succ_cons, List.take_succ_cons, List.take_zero, Tryd.litsI d a wa, Tryd.litsI d b wb]
     rfl)
  | (rw [if_pos (show [Value.int .i64 a, Value.int .i64 b].length = Tryd.prog.cellsOf 93 from by rw [show Tryd.prog.cellsOf 93 = 2 from by kernel_rfl]; rfl)]
     simp [show Tryd.prog.cellsOf 3 = 1 from by kernel_rfl, List.range, List.range.loop, Tryd.litsI d a wa, Tryd.litsI d b wb])
theorem Tryd.key93 (p : Sm × Sm) : keyOf Tryd.prog 93 (pairV p) = some (pairL p) := by
  unfold keyOf
  rw [Tryd.underlying93]
  dsimp only
  rw [if_pos (by
    rw [show Tryd.prog.keyType 93 = true from by kernel_rfl]
    simp only [Value.formed, Tryd.underlying93, show Tryd.prog.cellsOf 93 = 2 from by kernel_rfl]
    rfl)]
  obtain ⟨d, hd⟩ : ∃ d, Tryd.prog.types.size + 1 = d + 2 := ⟨Tryd.prog.types.size - 1, by kernel_rfl⟩
  rw [hd, show (pairV p).cells.toList = [.int .i64 (p.1.val : Int), .int .i64 (p.2.val : Int)] from rfl, Tryd.lits93 d _ _ (sm_wf p.1) (sm_wf p.2)]
  rfl
theorem Tryd.kkP : KeyT Tryd.prog 93 pairV pairL (fun _ => True) := pairT Tryd.keyed93 Tryd.key93
theorem Tryd.keyed92 : Maps.Keyed Tryd.prog 92 := Maps.Keyed.of_law (deep_law_laid (m := 3) (by kernel_rfl) (by decide) (of_decide_eq_true (by kernel_rfl)) (by kernel_rfl) (by kernel_rfl))
theorem Tryd.lits92 (d : Nat) (a b cc : Int) (wa : (Lit.int .i64 a).wf = true) (wb : (Lit.int .i64 b).wf = true) (wcc : (Lit.int .i64 cc).wf = true) : Tryd.prog.keyLits (d + 2) 92 [.int .i64 a, .int .i64 b, .int .i64 cc] = some [.int .i64 a, .int .i64 b, .int .i64 cc] := by
  unfold Program.keyLits
  rw [Tryd.underlying92]
  dsimp only
  first
  | (rw [if_pos ⟨by kernel_rfl, by kernel_rfl⟩]
     simp only [show Tryd.prog.cellsOf 3 = 1 from by kernel_rfl, List.mapM_cons, List.mapM_nil, List.drop_zero, List.drop_succ_cons, List.take_succ_cons, List.take_zero, Tryd.litsI d a wa, Tryd.litsI d b wb, Tryd.litsI d cc wcc]
     rfl)
  | (rw [if_pos (show [Value.int .i64 a, Value.int .i64 b, Value.int .i64 cc].length = Tryd.prog.cellsOf 92 from by rw [show Tryd.prog.cellsOf 92 = 3 from by kernel_rfl]; rfl)]
     simp [show Tryd.prog.cellsOf 3 = 1 from by kernel_rfl, List.range, List.range.loop, Tryd.litsI d a wa, Tryd.litsI d b wb, Tryd.litsI d cc wcc])
theorem Tryd.key92 (p : Sm × Sm × Sm) : keyOf Tryd.prog 92 (tripV p) = some (tripL p) := by
  unfold keyOf
  rw [Tryd.underlying92]
  dsimp only
  rw [if_pos (by
    rw [show Tryd.prog.keyType 92 = true from by kernel_rfl]
    simp only [Value.formed, Tryd.underlying92, show Tryd.prog.cellsOf 92 = 3 from by kernel_rfl]
    rfl)]
  obtain ⟨d, hd⟩ : ∃ d, Tryd.prog.types.size + 1 = d + 2 := ⟨Tryd.prog.types.size - 1, by kernel_rfl⟩
  rw [hd, show (tripV p).cells.toList = [.int .i64 (p.1.val : Int), .int .i64 (p.2.1.val : Int), .int .i64 (p.2.2.val : Int)] from rfl, Tryd.lits92 d _ _ _ (sm_wf p.1) (sm_wf p.2.1) (sm_wf p.2.2)]
  rfl
theorem Tryd.kkT : KeyT Tryd.prog 92 tripV tripL (fun _ => True) := tripT Tryd.keyed92 Tryd.key92
end Go.Proofs.YtfeeociajllbhaaDoor.Mt
