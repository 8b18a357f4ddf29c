/- The maps' keys: two and three numbers. No condition. -/
import Derived.Test.YtghnahckopokhaaD1
namespace Go.Proofs.Ytghnahckopokhaa
open Go.RowKit
set_option linter.unusedVariables false
set_option linter.unusedSimpArgs false
set_option maxRecDepth 100000

theorem Try.keyed68 : Maps.Keyed Try.prog 68 := Maps.Keyed.of_law (deep_law_laid (m := 2) (by kernel_rfl) (by decide) (of_decide_eq_true (by kernel_rfl)) (by kernel_rfl) (by kernel_rfl))
theorem Try.lits68 (d : Nat) (a b : Int) (wa : (Lit.int .i64 a).wf = true) (wb : (Lit.int .i64 b).wf = true) : Try.prog.keyLits (d + 2) 68 [.int .i64 a, .int .i64 b] = some [.int .i64 a, .int .i64 b] := by
  unfold Program.keyLits
  rw [Try.underlying68]
  dsimp only
  first
  | (rw [if_pos ⟨by kernel_rfl, by kernel_rfl⟩]
     simp only [show Try.prog.cellsOf 3 = 1 from by kernel_rfl, List.mapM_cons, List.mapM_nil, List.drop_zero, List.drop_succ_cons, List.take_succ_cons, List.take_zero, Try.litsI d a wa, Try.litsI d b wb]
     rfl)
  | (rw [if_pos (show [Value.int .i64 a, Value.int .i64 b].length = Try.prog.cellsOf 68 from by rw [show Try.prog.cellsOf 68 = 2 from by kernel_rfl]; rfl)]
     simp [show Try.prog.cellsOf 3 = 1 from by kernel_rfl, List.range, List.range.loop, Try.litsI d a wa, Try.litsI d b wb])
theorem Try.key68 (p : Sm × Sm) : keyOf Try.prog 68 (pairV p) = some (pairL p) := by
  unfold keyOf
  rw [Try.underlying68]
  dsimp only
  rw [if_pos (by
    rw [show Try.prog.keyType 68 = true from by kernel_rfl]
    simp only [Value.formed, Try.underlying68, show Try.prog.cellsOf 68 = 2 from by kernel_rfl]
    rfl)]
  obtain ⟨d, hd⟩ : ∃ d, Try.prog.types.size + 1 = d + 2 := ⟨Try.prog.types.size - 1, by kernel_rfl⟩
  rw [hd, show (pairV p).cells.toList = [.int .i64 (p.1.val : Int), .int .i64 (p.2.val : Int)] from rfl, Try.lits68 d _ _ (sm_wf p.1) (sm_wf p.2)]
  rfl
theorem Try.kkP : KeyT Try.prog 68 pairV pairL (fun _ => True) := pairT Try.keyed68 Try.key68
theorem Try.keyed67 : Maps.Keyed Try.prog 67 := Maps.Keyed.of_law (deep_law_laid (m := 3) (by kernel_rfl) (by decide) (of_decide_eq_true (by kernel_rfl)) (by kernel_rfl) (by kernel_rfl))
theorem Try.lits67 (d : Nat) (a b cc : Int) (wa : (Lit.int .i64 a).wf = true) (wb : (Lit.int .i64 b).wf = true) (wcc : (Lit.int .i64 cc).wf = true) : Try.prog.keyLits (d + 2) 67 [.int .i64 a, .int .i64 b, .int .i64 cc] = some [.int .i64 a, .int .i64 b, .int .i64 cc] := by
  unfold Program.keyLits
  rw [Try.underlying67]
  dsimp only
  first
  | (rw [if_pos ⟨by kernel_rfl, by kernel_rfl⟩]
     simp only [show Try.prog.cellsOf 3 = 1 from by kernel_rfl, List.mapM_cons, List.mapM_nil, List.drop_zero, List.drop_succ_cons, List.take_succ_cons, List.take_zero, Try.litsI d a wa, Try.litsI d b wb, Try.litsI d cc wcc]
     rfl)
  | (rw [if_pos (show [Value.int .i64 a, Value.int .i64 b, Value.int .i64 cc].length = Try.prog.cellsOf 67 from by rw [show Try.prog.cellsOf 67 = 3 from by kernel_rfl]; rfl)]
     simp [show Try.prog.cellsOf 3 = 1 from by kernel_rfl, List.range, List.range.loop, Try.litsI d a wa, Try.litsI d b wb, Try.litsI d cc wcc])
theorem Try.key67 (p : Sm × Sm × Sm) : keyOf Try.prog 67 (tripV p) = some (tripL p) := by
  unfold keyOf
  rw [Try.underlying67]
  dsimp only
  rw [if_pos (by
    rw [show Try.prog.keyType 67 = true from by kernel_rfl]
    simp only [Value.formed, Try.underlying67, show Try.prog.cellsOf 67 = 3 from by kernel_rfl]
    rfl)]
  obtain ⟨d, hd⟩ : ∃ d, Try.prog.types.size + 1 = d + 2 := ⟨Try.prog.types.size - 1, by kernel_rfl⟩
  rw [hd, show (tripV p).cells.toList = [.int .i64 (p.1.val : Int), .int .i64 (p.2.1.val : Int), .int .i64 (p.2.2.val : Int)] from rfl, Try.lits67 d _ _ _ (sm_wf p.1) (sm_wf p.2.1) (sm_wf p.2.2)]
  rfl
theorem Try.kkT : KeyT Try.prog 67 tripV tripL (fun _ => True) := tripT Try.keyed67 Try.key67
end Go.Proofs.Ytghnahckopokhaa
