/- Something comes in, if it is on its way. The walk. No condition. -/
import Derived.Test.YtgnpngiecnkfiaaT
import Derived.Test.YtgnpngiecnkfiaaX6
namespace Go.Proofs.Ytgnpngiecnkfiaa
open Go.RowKit
set_option linter.unusedVariables false
set_option linter.unusedSimpArgs false
set_option maxRecDepth 100000

structure Pr where
  works : Bool
  bound : Bool
  to : Option Sm
  owes : Int
def toI : Option Sm → Int
  | none => -1
  | some j => j.val
abbrev FP (p : Pr) : List Value := [.bool p.works, .bool p.bound, .int .i64 (toI p.to), .int .i64 p.owes]
theorem FP_len (p : Pr) : (FP p).length = 4 := rfl
theorem FP_one (p : Pr) (u : Value) (h : u ∈ FP p) : u.oneCell' = true := by simp [FP] at h; rcases h with rfl | rfl | rfl | rfl <;> rfl
abbrev Cn := List ((Sm × Sm) × Nat)
abbrev vN (x : Nat) : Value := .int .i64 (x : Int)
abbrev mapN (b : Nat) (ms : Cn) : Hp := Hp.map Try.prog 45 pairL vN b ms
def cnt (ms : Cn) (k : Sm × Sm) : Nat := (getM ms k).getD 0
def inc (ms : Cn) (k : Sm × Sm) : Cn := putM ms k (cnt ms k + 1)
def dec (ms : Cn) (k : Sm × Sm) : Cn := putM ms k (cnt ms k - 1)
theorem Try.keyed45 : Maps.Keyed Try.prog 45 := Maps.Keyed.of_law (deep_law_laid (m := 2) (by kernel_rfl) (by decide) (of_decide_eq_true (by kernel_rfl)) (by kernel_rfl) (by kernel_rfl))
theorem Try.lits3 (d : Nat) (a : Int) (w : (Lit.int .i64 a).wf = true) : Try.prog.keyLits (d + 1) 3 [.int .i64 a] = some [.int .i64 a] := by
  unfold Program.keyLits
  rw [Try.underlying3]
  exact if_pos ⟨rfl, w⟩
theorem Try.lits45 (d : Nat) (a b : Int) (wa : (Lit.int .i64 a).wf = true) (wb : (Lit.int .i64 b).wf = true) : Try.prog.keyLits (d + 2) 45 [.int .i64 a, .int .i64 b] = some [.int .i64 a, .int .i64 b] := by
  unfold Program.keyLits
  rw [Try.underlying45]
  dsimp only
  rw [if_pos ⟨by kernel_rfl, by kernel_rfl⟩]
  simp only [show Try.prog.cellsOf 3 = 1 from by kernel_rfl, List.mapM_cons, List.mapM_nil, List.drop_zero, List.drop_succ_cons, List.take_succ_cons, List.take_zero, Try.lits3 d a wa, Try.lits3 d b wb]
  rfl
theorem Try.key45 (p : Sm × Sm) : keyOf Try.prog 45 (pairV p) = some (pairL p) := by
  unfold keyOf
  rw [Try.underlying45]
  dsimp only
  rw [if_pos (by
    rw [show Try.prog.keyType 45 = true from by kernel_rfl]
    simp only [Value.formed, Try.underlying45, show Try.prog.cellsOf 45 = 2 from by kernel_rfl]
    rfl)]
  obtain ⟨d, hd⟩ : ∃ d, Try.prog.types.size + 1 = d + 2 := ⟨Try.prog.types.size - 1, by kernel_rfl⟩
  rw [hd, show (pairV p).cells.toList = [.int .i64 (p.1.val : Int), .int .i64 (p.2.val : Int)] from rfl, Try.lits45 d _ _ (sm_wf p.1) (sm_wf p.2)]
  rfl
theorem Try.kL : KeyT Try.prog 45 pairV pairL (fun _ => True) := pairT Try.keyed45 Try.key45
theorem getM_vN (ms : Cn) (k : Sm × Sm) : ((getM ms k).map vN).getD (.int .i64 0) = vN (cnt ms k) := by
  unfold cnt; cases getM ms k <;> rfl
theorem getM_vN2 (ms : Cn) (k : Sm × Sm) : ((getM (putM ms k (cnt ms k)) k).map vN).getD (.int .i64 0) = vN (cnt ms k) := by
  rw [getM_put, if_pos rfl]; rfl

theorem arrive_no {W w : World} {b : Nat} {ms : Cn} {i j : Sm} {R : Hp} (hc : cnt ms (i, j) = 0) (hm : ms.length ≤ 1000) (hx : cnt ms (i, j) ≤ 1000) (H : Sat W w (mapN b ms * R)) :
    Calls Try.prog 13 #[.map (some b), pairV (i, j)] w (Ret W fun v l => v = .bool false ∧ sep l = mapN b ms * R) := by
  refine Gx.enter (l := [Hp.map Try.prog 45 pairL vN b ms, R]) Try.func13 rfl Try.ntmps13 rfl (H.frame1) ?_
  refine Gx.know (m' := [(0, .map (some b)), (1, .agg #[.int .i64 ((i.val : Nat) : Int), .int .i64 ((j.val : Nat) : Int)])]) (.cons rfl (.cons rfl .nil)) ?_
  refine Gx.seq ?_
  refine Gx.region ?_
  refine Gx.eff rfl rfl rfl (eff_box rfl rfl (vs := [.int .i64 ((i.val : Nat) : Int), .int .i64 ((j.val : Nat) : Int)]) rfl) ?_
  rintro _ _ ⟨b1, rfl, rfl⟩
  refine Gx.val rfl rfl rfl (val_assign rfl rfl) ?_
  refine Gx.done ?_
  refine Gx.thenN ?_
  refine Gx.seq ?_
  refine Gx.seq ?_
  refine Gx.region ?_
  refine Gx.val rfl rfl rfl (val_move rfl rfl) ?_
  refine Gx.val rfl rfl rfl (Val.cast (val_loadA rfl Try.ty45 rfl rfl rfl (cells_rec (k := 0) rfl)) (v' := .agg #[.int .i64 ((i.val : Nat) : Int), .int .i64 ((j.val : Nat) : Int)]) rfl) ?_
  refine Gx.val rfl rfl rfl (val_lookup1 rfl Try.underlying37 Try.kL Try.ty3 rfl rfl (i := (i, j)) (trivial) (k := 1) rfl (r := .int .i64 ((cnt ms (i, j) : Nat) : Int)) (getM_vN ms (i, j))) ?_
  refine Gx.val rfl rfl rfl (val_eql rfl rfl rfl) ?_
  refine Gx.done ?_
  refine Gx.thenN ?_
  refine Gx.decT rfl (by omega) ?_
  refine Gx.seq ?_
  refine Gx.region ?_
  refine Gx.val rfl rfl rfl (val_assign rfl rfl) ?_
  refine Gx.done ?_
  refine Gx.thenN ?_
  refine Gx.ret ?_
  refine Gx.thenR ?_
  refine Gx.drop 0 rfl ?_
  refine Gx.ret1 Try.results13 rfl ?_
  refine ⟨?_, sep1 _ _⟩
  rfl

theorem arrive_yes {W w : World} {b : Nat} {ms : Cn} {i j : Sm} {R : Hp} (hc : cnt ms (i, j) ≠ 0) (hm : ms.length ≤ 1000) (hx : cnt ms (i, j) ≤ 1000) (H : Sat W w (mapN b ms * R)) :
    Calls Try.prog 13 #[.map (some b), pairV (i, j)] w (Ret W fun v l => v = .bool true ∧ sep l = mapN b (dec ms (i, j)) * R) := by
  refine Gx.enter (l := [Hp.map Try.prog 45 pairL vN b ms, R]) Try.func13 rfl Try.ntmps13 rfl (H.frame1) ?_
  refine Gx.know (m' := [(0, .map (some b)), (1, .agg #[.int .i64 ((i.val : Nat) : Int), .int .i64 ((j.val : Nat) : Int)])]) (.cons rfl (.cons rfl .nil)) ?_
  refine Gx.seq ?_
  refine Gx.region ?_
  refine Gx.eff rfl rfl rfl (eff_box rfl rfl (vs := [.int .i64 ((i.val : Nat) : Int), .int .i64 ((j.val : Nat) : Int)]) rfl) ?_
  rintro _ _ ⟨b2, rfl, rfl⟩
  refine Gx.val rfl rfl rfl (val_assign rfl rfl) ?_
  refine Gx.done ?_
  refine Gx.thenN ?_
  refine Gx.seq ?_
  refine Gx.seq ?_
  refine Gx.region ?_
  refine Gx.val rfl rfl rfl (val_move rfl rfl) ?_
  refine Gx.val rfl rfl rfl (Val.cast (val_loadA rfl Try.ty45 rfl rfl rfl (cells_rec (k := 0) rfl)) (v' := .agg #[.int .i64 ((i.val : Nat) : Int), .int .i64 ((j.val : Nat) : Int)]) rfl) ?_
  refine Gx.val rfl rfl rfl (val_lookup1 rfl Try.underlying37 Try.kL Try.ty3 rfl rfl (i := (i, j)) (trivial) (k := 1) rfl (r := .int .i64 ((cnt ms (i, j) : Nat) : Int)) (getM_vN ms (i, j))) ?_
  refine Gx.val rfl rfl rfl (val_eql rfl rfl rfl) ?_
  refine Gx.done ?_
  refine Gx.thenN ?_
  refine Gx.decF rfl (by omega) ?_
  refine Gx.skip ?_
  refine Gx.thenN ?_
  refine Gx.seq ?_
  refine Gx.regionO (fun j => j == 4) 6 [0, 1, 2, 3, 4, 5] (fun us => match us with | [] => [Hp.rec_ b2 [.int .i64 ((i.val : Nat) : Int), .int .i64 ((j.val : Nat) : Int)], Hp.map Try.prog 45 pairL vN b ms, R] | u1 :: _ => [Hp.rec_ b2 [.int .i64 ((i.val : Nat) : Int), .int .i64 ((j.val : Nat) : Int)], Hp.mapE Try.prog 45 pairL vN pairV b (putM ms (i, j) (cnt ms (i, j))) (i, j) (sN u1), R]) Try.mixed (by kernel_rfl) rfl ?_
  refine Gw.val rfl rfl rfl rfl rfl (fun us => val_move rfl rfl) ?_
  refine Gw.val0 rfl rfl rfl (by kernel_rfl) rfl rfl (Val.cast (val_loadA rfl Try.ty45 rfl rfl rfl (cells_rec (k := 0) rfl)) (v' := .agg #[.int .i64 ((i.val : Nat) : Int), .int .i64 ((j.val : Nat) : Int)]) rfl) ?_
  refine Gw.val rfl rfl rfl rfl rfl (fun us => match us with | [] => val_lookup1 rfl Try.underlying37 Try.kL Try.ty3 rfl rfl (i := (i, j)) (trivial) (k := 1) rfl (r := .int .i64 ((cnt ms (i, j) : Nat) : Int)) (getM_vN ms (i, j)) | u1 :: _ => val_lookup1E rfl Try.underlying37 Try.kL Try.ty3 rfl rfl (i := (i, j)) (trivial) (k := 1) rfl (r := .int .i64 ((cnt ms (i, j) : Nat) : Int)) (getM_vN2 ms (i, j))) ?_
  refine Gw.val rfl rfl rfl rfl rfl (fun us => val_sub rfl rfl rfl (r := ((cnt ms (i, j) - 1 : Nat) : Int)) (w64 (by omega) (by omega))) ?_
  refine Gw.chg rfl rfl rfl rfl rfl (fun v => ∃ s3 : Nat, v = .tuple #[vN (cnt ms (i, j)), .int .i64 ((s3 : Nat) : Int)]) (Eff.mono (eff_mapEntry rfl Try.underlying37 Try.ty3 (z0 := 0) rfl Try.kL pairK rfl rfl (i := (i, j)) (trivial) (k := 1) rfl (by unfold maxLen; omega) (r := cnt ms (i, j)) (rfl)) (by rintro _ _ ⟨s3, rfl, rfl⟩; exact ⟨⟨s3, rfl⟩, rfl⟩)) ?_
  rintro _ ⟨s3, rfl⟩
  refine Gw.val rfl rfl rfl rfl rfl (fun us => val_extract rfl rfl rfl) ?_
  refine Gw.done ?_
  refine Gx.norm (l' := [Hp.rec_ b2 [.int .i64 ((i.val : Nat) : Int), .int .i64 ((j.val : Nat) : Int)], Hp.mapE Try.prog 45 pairL vN pairV b (putM ms (i, j) (cnt ms (i, j))) (i, j) s3, R]) rfl ?_
  refine Gx.eff0 rfl rfl (eff_entryStore rfl Try.underlying37 Try.kL pairK rfl rfl rfl (i := (i, j)) (r := cnt ms (i, j) - 1) (trivial) (k := 1) rfl (by rw [putM_length]; unfold maxLen; split <;> omega) (l' := [Hp.rec_ b2 [.int .i64 ((i.val : Nat) : Int), .int .i64 ((j.val : Nat) : Int)], Hp.map Try.prog 45 pairL vN b (dec ms (i, j)), R]) (by rw [show putM (putM ms (i, j) (cnt ms (i, j))) (i, j) (cnt ms (i, j) - 1) = dec ms (i, j) from putM_twice ..]; rfl)) ?_
  rintro _ _ rfl
  refine Gx.done ?_
  refine Gx.thenN ?_
  refine Gx.seq ?_
  refine Gx.region ?_
  refine Gx.val rfl rfl rfl (val_assign rfl rfl) ?_
  refine Gx.done ?_
  refine Gx.thenN ?_
  refine Gx.ret ?_
  refine Gx.drop 0 rfl ?_
  refine Gx.ret1 Try.results13 rfl ?_
  exact ⟨rfl, sep1 _ _⟩

end Go.Proofs.Ytgnpngiecnkfiaa
