/- A vote is counted. The walk. No condition. -/
import Derived.Test.YtcblkjjkpffjhaaDoorA1
namespace Go.Proofs.YtcblkjjkpffjhaaDoor
open Go.RowKit
set_option linter.unusedVariables false
set_option linter.unusedSimpArgs false
set_option maxRecDepth 100000

abbrev Mi := List (Nat × Int)
abbrev Mb := List (Nat × Bool)
def getI (ms : Mi) (i : Nat) : Int := (getM ms i).getD 0
theorem getI_look (ms : Mi) (i : Nat) : ((getM ms i).map intV).getD (.int .i64 0) = .int .i64 (getI ms i) := by unfold getI; cases getM ms i <;> rfl
theorem getI_put (ms : Mi) (i : Nat) (x : Int) (j : Nat) : getI (putM ms i x) j = if i = j then x else getI ms j := by
  unfold getI; rw [getM_put]; split <;> rfl
def cntM (ms : Mi) (i : Nat) (y : Bool) : Mi := putM ms i (getI ms i + vote y)
theorem cntM_get (ms : Mi) (i j : Nat) (y : Bool) : getI (cntM ms i y) j = getI ms j + (if i = j then vote y else 0) := by
  unfold cntM
  rw [getI_put]
  split
  · rename_i h; rw [h]
  · rw [Int.add_zero]
theorem mapI_one {b : Int} {l : Mi} : True := trivial
theorem sep2'' (p q R : Hp) : sep [p, q, R] = p * (q * R) := by show p * (q * (R * 1)) = _; rw [Hp.mul_one]
theorem count_any {W w : World} {b vb i : Nat} {y : Bool} {ms : Mi} {R : Hp} (hi : i < 7) (hms : ms.length ≤ 7) (hb : -1000 ≤ getI ms i ∧ getI ms i ≤ 1000) (H : Sat W w (Hp.rec_ b [.map (some vb)] * (Hp.map Tryd.prog 3 natL intV vb ms * R))) :
    Calls Tryd.prog 13 #[.int .i64 ((i : Nat) : Int), .bool y, ptr b 0] w (Ret W fun v l9 => v = .tuple #[] ∧ sep l9 = Hp.rec_ b [.map (some vb)] * (Hp.map Tryd.prog 3 natL intV vb (cntM ms i y) * R)) := by
  refine Gx.enter (l := [Hp.rec_ b [.map (some vb)], Hp.map Tryd.prog 3 natL intV vb ms, R]) Tryd.func13 rfl Tryd.ntmps13 rfl (H.frame2) ?_
  refine Gx.know (m' := [(0, .int .i64 ((i : Nat) : Int)), (1, .bool y), (2, ptr b 0)]) (.cons rfl (.cons rfl (.cons rfl .nil))) ?_
  refine Gx.seq ?_
  refine Gx.region ?_
  refine Gx.val rfl rfl rfl (val_load rfl Tryd.ty40 rfl rfl (cell_rec (k := 0) rfl rfl)) ?_
  refine Gx.val rfl rfl rfl (val_move rfl rfl) ?_
  refine Gx.val rfl rfl rfl (val_lookup1 rfl Tryd.underlying40 Tryd.kN Tryd.ty3 rfl rfl (i := i) (by omega) (k := 1) rfl (r := .int .i64 (getI ms i)) (getI_look ms i)) ?_
  refine Gx.val rfl rfl rfl (val_sub rfl rfl rfl (r := (getI ms i - 1)) (w64 rfl (by omega))) ?_
  refine Gx.eff0 rfl rfl (eff_mapUpdate (vf := intV) rfl Tryd.underlying40 Tryd.kN natK rfl rfl rfl (i := i) (r := getI ms i - 1) (by omega) (k := 1) rfl (by unfold maxLen; omega) (l' := [Hp.rec_ b [.map (some vb)], Hp.map Tryd.prog 3 natL intV vb (putM ms i (getI ms i - 1)), R]) rfl) ?_
  rintro _ _ rfl
  refine Gx.done ?_
  refine Gx.thenN ?_
  refine Gx.seq ?_
  refine Gx.region ?_
  refine Gx.val rfl rfl rfl (val_move rfl rfl) ?_
  refine Gx.done ?_
  refine Gx.thenN ?_
  refine Gx.bool rfl (fun h1 => ?_) (fun h1 => ?_)
  · refine Gx.region ?_
    refine Gx.val rfl rfl rfl (val_load rfl Tryd.ty40 rfl rfl (cell_rec (k := 0) rfl rfl)) ?_
    refine Gx.val rfl rfl rfl (val_move rfl rfl) ?_
    refine Gx.val rfl rfl rfl (val_lookup1 rfl Tryd.underlying40 Tryd.kN Tryd.ty3 rfl rfl (i := i) (by omega) (k := 1) rfl (r := .int .i64 (getI ms i - 1)) (by rw [getI_look, getI_put, if_pos rfl])) ?_
    refine Gx.val rfl rfl rfl (val_add rfl rfl rfl (r := (getI ms i + 1)) (w64 (by omega) (by omega))) ?_
    refine Gx.eff0 rfl rfl (eff_mapUpdate (vf := intV) rfl Tryd.underlying40 Tryd.kN natK rfl rfl rfl (i := i) (r := getI ms i + 1) (by omega) (k := 1) rfl (by unfold maxLen; rw [putM_length]; split <;> omega) (l' := [Hp.rec_ b [.map (some vb)], Hp.map Tryd.prog 3 natL intV vb (putM (putM ms i (getI ms i - 1)) i (getI ms i + 1)), R]) rfl) ?_
    rintro _ _ rfl
    refine Gx.done ?_
    refine Gx.endN ?_
    refine Gx.ret0 Tryd.results13 ?_
    refine ⟨rfl, ?_⟩
    rw [show cntM ms i y = putM (putM ms i (getI ms i - 1)) i (getI ms i + 1) from by unfold cntM; rw [putM_twice, h1]; rfl]
    exact sep2'' _ _ _
  · refine Gx.skip ?_
    refine Gx.endN ?_
    refine Gx.ret0 Tryd.results13 ?_
    refine ⟨rfl, ?_⟩
    rw [show cntM ms i y = putM ms i (getI ms i - 1) from by unfold cntM; rw [h1]; rfl]
    exact sep2'' _ _ _

end Go.Proofs.YtcblkjjkpffjhaaDoor
