/- Which stamp is later; what is stored at a copy. The walks. No condition. -/
import Derived.Test.YtjiefamdpbnngaaD1
import Derived.Test.YtjiefamdpbnngaaCMP
namespace Go.Proofs.Ytjiefamdpbnngaa
open Go.RowKit
set_option linter.unusedVariables false
set_option linter.unusedSimpArgs false
set_option maxRecDepth 100000

abbrev Fsd (s : Sd) : List Value := [.int .i64 ((s.n : Nat) : Int), .int .i64 ((s.who : Nat) : Int), .int .i64 s.val]
theorem FS_len (c : Sd) : (Fsd c).length = 3 := rfl
theorem FS_one (p : Sd) (u : Value) (h : u ∈ Fsd p) : u.oneCell' = true := by simp [Fsd] at h; rcases h with rfl | rfl | rfl <;> rfl
theorem Try.eS : Elem Try.prog 42 51 (.agg #[.int .i64 0, .int .i64 0, .int .i64 0]) 3 24 := ⟨Try.underlying42, by kernel_rfl, rfl, by decide⟩
theorem cmp_b (a b : Int) {w : World} : Calls Try.prog 22 #[.int .i64 a, .int .i64 b] w fun e w' => e = .returned (.int .i64 (cmpI a b)) ∧ Below w.heap.size w w' := (compare_any a b w).mono fun e w' ⟨he, hw⟩ => ⟨he, by rw [← hw]; exact Below.refl _ _⟩
theorem or_b {a b : Int} {W w : World} {g cap : Nat} {R : Hp} (H : Sat W w (Hp.rec_ g [.int .i64 a, .int .i64 b] * R)) : Calls Try.prog 21 #[.slice (some ⟨g, 0, none⟩) 2 cap] w fun e w' => e = .returned (.int .i64 (if a = 0 then b else a)) ∧ Below w.heap.size w w' :=
  (or_two a b g cap w (H.cell 0 rfl) (H.cell 1 rfl)).mono fun e w' ⟨he, hw⟩ => ⟨he, by rw [← hw]; exact Below.refl _ _⟩
theorem later_any {W : World} (s t : Sd) : Calls Try.prog 20 #[.agg #[.int .i64 ((s.n : Nat) : Int), .int .i64 ((s.who : Nat) : Int), .int .i64 s.val], .agg #[.int .i64 ((t.n : Nat) : Int), .int .i64 ((t.who : Nat) : Int), .int .i64 t.val]] W fun e w' => e = .returned (.bool (later s t)) ∧ Below W.heap.size W w' := by
  refine calls_pure (Gx.enter (l := []) Try.func20 rfl Try.ntmps20 rfl (Sat.start W) ?_)
  refine Gx.know (m' := [(0, .agg #[.int .i64 ((s.n : Nat) : Int), .int .i64 ((s.who : Nat) : Int), .int .i64 s.val]), (1, .agg #[.int .i64 ((t.n : Nat) : Int), .int .i64 ((t.who : Nat) : Int), .int .i64 t.val])]) (.cons rfl (.cons rfl .nil)) ?_
  refine Gx.seq ?_
  refine Gx.region ?_
  refine Gx.eff rfl rfl rfl (eff_box rfl rfl (vs := [.int .i64 ((s.n : Nat) : Int), .int .i64 ((s.who : Nat) : Int), .int .i64 s.val]) rfl) ?_
  rintro _ _ ⟨b1, rfl, rfl⟩
  refine Gx.eff rfl rfl rfl (eff_box rfl rfl (vs := [.int .i64 ((t.n : Nat) : Int), .int .i64 ((t.who : Nat) : Int), .int .i64 t.val]) rfl) ?_
  rintro _ _ ⟨b2, rfl, rfl⟩
  refine Gx.val rfl rfl rfl (val_assign rfl rfl) ?_
  refine Gx.done ?_
  refine Gx.thenN ?_
  refine Gx.seq ?_
  refine Gx.regionO (fun j => j == 10) 13 [0, 1, 2, 3, 4, 5, 6, 7, 8, 9, 10, 11, 12] (fun us => match us with | [] => [Hp.rec_ b2 [.int .i64 ((t.n : Nat) : Int), .int .i64 ((t.who : Nat) : Int), .int .i64 t.val], Hp.rec_ b1 [.int .i64 ((s.n : Nat) : Int), .int .i64 ((s.who : Nat) : Int), .int .i64 s.val]] | u1 :: _ => [Hp.rec_ (sB u1) [.int .i64 (cmpI ((s.n : Nat) : Int) ((t.n : Nat) : Int)), .int .i64 (cmpI ((s.who : Nat) : Int) ((t.who : Nat) : Int))], Hp.rec_ b2 [.int .i64 ((t.n : Nat) : Int), .int .i64 ((t.who : Nat) : Int), .int .i64 t.val], Hp.rec_ b1 [.int .i64 ((s.n : Nat) : Int), .int .i64 ((s.who : Nat) : Int), .int .i64 s.val]]) Try.mixed (by kernel_rfl) rfl ?_
  refine Gw.val rfl rfl rfl rfl rfl (fun us => Val.cast (val_fieldAddr rfl Try.underlying51 rfl Try.ty3 rfl rfl) (v' := ptr b1 0) rfl) ?_
  refine Gw.val rfl rfl rfl rfl rfl (fun us => match us with | [] => val_load rfl Try.ty3 rfl rfl (cell_rec (k := 1) rfl rfl) | u1 :: _ => val_load rfl Try.ty3 rfl rfl (cell_rec (k := 2) rfl rfl)) ?_
  refine Gw.val rfl rfl rfl rfl rfl (fun us => Val.cast (val_fieldAddr rfl Try.underlying51 rfl Try.ty3 rfl rfl) (v' := ptr b2 0) rfl) ?_
  refine Gw.val rfl rfl rfl rfl rfl (fun us => match us with | [] => val_load rfl Try.ty3 rfl rfl (cell_rec (k := 0) rfl rfl) | u1 :: _ => val_load rfl Try.ty3 rfl rfl (cell_rec (k := 1) rfl rfl)) ?_
  refine Gw.val rfl rfl rfl rfl rfl (fun us => val_call (vs := [.int .i64 ((s.n : Nat) : Int), .int .i64 ((t.n : Nat) : Int)]) rfl Try.fn22 rfl (fun w H => cmp_b ((s.n : Nat) : Int) ((t.n : Nat) : Int))) ?_
  refine Gw.val rfl rfl rfl rfl rfl (fun us => Val.cast (val_fieldAddr rfl Try.underlying51 rfl Try.ty3 rfl rfl) (v' := ptr b1 1) rfl) ?_
  refine Gw.val rfl rfl rfl rfl rfl (fun us => match us with | [] => val_load rfl Try.ty3 rfl rfl (cell_rec (k := 1) rfl rfl) | u1 :: _ => val_load rfl Try.ty3 rfl rfl (cell_rec (k := 2) rfl rfl)) ?_
  refine Gw.val rfl rfl rfl rfl rfl (fun us => Val.cast (val_fieldAddr rfl Try.underlying51 rfl Try.ty3 rfl rfl) (v' := ptr b2 1) rfl) ?_
  refine Gw.val rfl rfl rfl rfl rfl (fun us => match us with | [] => val_load rfl Try.ty3 rfl rfl (cell_rec (k := 0) rfl rfl) | u1 :: _ => val_load rfl Try.ty3 rfl rfl (cell_rec (k := 1) rfl rfl)) ?_
  refine Gw.val rfl rfl rfl rfl rfl (fun us => val_call (vs := [.int .i64 ((s.who : Nat) : Int), .int .i64 ((t.who : Nat) : Int)]) rfl Try.fn22 rfl (fun w H => cmp_b ((s.who : Nat) : Int) ((t.who : Nat) : Int))) ?_
  refine Gw.chg rfl rfl rfl rfl rfl (fun v => ∃ b3, v = .slice (some ⟨b3, 0, none⟩) 2 2) (Eff.mono (eff_buildSlice rfl (qs := [(0, .int .i64 (cmpI ((s.n : Nat) : Int) ((t.n : Nat) : Int))), (1, .int .i64 (cmpI ((s.who : Nat) : Int) ((t.who : Nat) : Int)))]) rfl rfl (cs := #[.int .i64 (cmpI ((s.n : Nat) : Int) ((t.n : Nat) : Int)), .int .i64 (cmpI ((s.who : Nat) : Int) ((t.who : Nat) : Int))]) (vs := [.int .i64 (cmpI ((s.n : Nat) : Int) ((t.n : Nat) : Int)), .int .i64 (cmpI ((s.who : Nat) : Int) ((t.who : Nat) : Int))]) (E := 3) rfl (fun w => by first | (go_simp; done) | (go_simp; rfl))) (by rintro _ _ ⟨b3, rfl, rfl⟩; exact ⟨⟨b3, rfl⟩, rfl⟩)) ?_
  rintro _ ⟨b3, rfl⟩
  refine Gw.val0 rfl rfl rfl (by kernel_rfl) rfl rfl (val_call (vs := [.slice (some ⟨b3, 0, none⟩) 2 2]) rfl Try.fn21 rfl (fun w H => or_b (H.at_ (k := 0) rfl))) ?_
  refine Gw.val rfl rfl rfl rfl rfl (fun us => val_gtr rfl rfl rfl) ?_
  refine Gw.done ?_
  refine Gx.norm (l' := [Hp.rec_ b3 [.int .i64 (cmpI ((s.n : Nat) : Int) ((t.n : Nat) : Int)), .int .i64 (cmpI ((s.who : Nat) : Int) ((t.who : Nat) : Int))], Hp.rec_ b2 [.int .i64 ((t.n : Nat) : Int), .int .i64 ((t.who : Nat) : Int), .int .i64 t.val], Hp.rec_ b1 [.int .i64 ((s.n : Nat) : Int), .int .i64 ((s.who : Nat) : Int), .int .i64 s.val]]) rfl ?_
  refine Gx.val rfl rfl rfl (val_assign rfl rfl) ?_
  refine Gx.done ?_
  refine Gx.thenN ?_
  refine Gx.ret ?_
  refine Gx.ret1 Try.results20 rfl ?_
  exact congrArg Value.bool (decide_eq_decide.2 (by unfold cmpI; (repeat' split) <;> omega))


theorem store_any {W w : World} {S i : Nat} {cv ov n0 n1 n2 n3 : Value} {cs : List Sd} {R : Hp} (s : Sd) (hi : i < cs.length) (H : Sat W w (Hp.rec_ S [cv, ov, n0, n1, n2, n3] * (Hp.own Fsd 3 cv cs * R))) :
    Calls Try.prog 16 #[ptr S 0, .int .i64 ((i : Nat) : Int), .agg #[.int .i64 ((s.n : Nat) : Int), .int .i64 ((s.who : Nat) : Int), .int .i64 s.val]] w (Ret W fun v l => v = .tuple #[] ∧ sep l = Hp.rec_ S [cv, ov, n0, n1, n2, n3] * (Hp.own Fsd 3 cv (storeR cs i s) * R)) := by
  obtain ⟨c, hci⟩ := get_of_lt hi
  refine Gx.enter (l := [Hp.rec_ S [cv, ov, n0, n1, n2, n3], Hp.own Fsd 3 cv cs, R]) Try.func16 rfl Try.ntmps16 rfl (H.frame2) ?_
  refine Gx.know (m' := [(0, ptr S 0), (1, .int .i64 ((i : Nat) : Int)), (2, .agg #[.int .i64 ((s.n : Nat) : Int), .int .i64 ((s.who : Nat) : Int), .int .i64 s.val])]) (.cons rfl (.cons rfl (.cons rfl .nil))) ?_
  refine Gx.seq ?_
  refine Gx.region ?_
  refine Gx.eff rfl rfl rfl (eff_box rfl rfl (vs := [.int .i64 ((s.n : Nat) : Int), .int .i64 ((s.who : Nat) : Int), .int .i64 s.val]) rfl) ?_
  rintro _ _ ⟨b1, rfl, rfl⟩
  refine Gx.done ?_
  refine Gx.thenN ?_
  refine Gx.seq ?_
  refine Gx.regionQ Try.mixed (by kernel_rfl) ?_
  refine Gq.val rfl rfl rfl (Val.cast (val_loadA rfl Try.ty51 rfl rfl rfl (cells_rec (k := 0) rfl)) (v' := .agg #[.int .i64 ((s.n : Nat) : Int), .int .i64 ((s.who : Nat) : Int), .int .i64 s.val]) rfl) ?_
  refine Gq.val rfl rfl rfl (val_move rfl rfl) ?_
  refine Gq.val rfl rfl rfl (val_nilCheck rfl rfl) ?_
  refine Gq.val rfl rfl rfl (Val.cast (val_fieldAddr rfl Try.underlying47 rfl Try.ty42 rfl rfl) (v' := ptr S 0) rfl) ?_
  refine Gq.val rfl rfl rfl (val_load rfl Try.ty42 rfl rfl (cell_rec (k := 1) rfl rfl)) ?_
  refine Gq.val rfl rfl rfl (val_move rfl rfl) ?_
  refine Gq.val rfl rfl rfl (val_ixa rfl Try.underlying42 Try.ty51 rfl rfl (j := i) (rfl) (reach_own (k := 2) rfl hci)) ?_
  refine Gq.val rfl rfl rfl (Val.cast (val_loadA rfl Try.ty51 rfl rfl rfl (cells_own (k := 2) rfl hci)) (v' := .agg #[.int .i64 ((c.n : Nat) : Int), .int .i64 ((c.who : Nat) : Int), .int .i64 c.val]) rfl) ?_
  refine Gq.val rfl rfl rfl (val_call (vs := [.agg #[.int .i64 ((s.n : Nat) : Int), .int .i64 ((s.who : Nat) : Int), .int .i64 s.val], .agg #[.int .i64 ((c.n : Nat) : Int), .int .i64 ((c.who : Nat) : Int), .int .i64 c.val]]) rfl Try.fn20 rfl (fun w H => later_any s c)) ?_
  refine Gq.done ?_
  refine Gx.thenN ?_
  refine Gx.bool rfl (fun h2 => ?_) (fun h2 => ?_)
  · refine Gx.regionO (fun j => false) 7 [0, 1, 2, 3, 4, 5, 6] (fun _ => [Hp.rec_ b1 [.int .i64 ((s.n : Nat) : Int), .int .i64 ((s.who : Nat) : Int), .int .i64 s.val], Hp.rec_ S [cv, ov, n0, n1, n2, n3], Hp.own Fsd 3 cv cs, R]) Try.mixed (by kernel_rfl) rfl ?_
    refine Gw.val rfl rfl rfl rfl rfl (fun us => val_move rfl rfl) ?_
    refine Gw.val rfl rfl rfl rfl rfl (fun us => val_nilCheck rfl rfl) ?_
    refine Gw.val rfl rfl rfl rfl rfl (fun us => Val.cast (val_fieldAddr rfl Try.underlying47 rfl Try.ty42 rfl rfl) (v' := ptr S 0) rfl) ?_
    refine Gw.val0 rfl rfl rfl (by kernel_rfl) rfl rfl (val_load rfl Try.ty42 rfl rfl (cell_rec (k := 1) rfl rfl)) ?_
    refine Gw.val rfl rfl rfl rfl rfl (fun us => val_move rfl rfl) ?_
    refine Gw.val0 rfl rfl rfl (by kernel_rfl) rfl rfl (Val.cast (val_loadA rfl Try.ty51 rfl rfl rfl (cells_rec (k := 0) rfl)) (v' := .agg #[.int .i64 ((s.n : Nat) : Int), .int .i64 ((s.who : Nat) : Int), .int .i64 s.val]) rfl) ?_
    refine Gw.val0 rfl rfl rfl (by kernel_rfl) rfl rfl (val_ixa rfl Try.underlying42 Try.ty51 rfl rfl (j := i) (rfl) (reach_own (k := 2) rfl hci)) ?_
    refine Gw.done ?_
    refine Gx.norm (l' := [Hp.rec_ b1 [.int .i64 ((s.n : Nat) : Int), .int .i64 ((s.who : Nat) : Int), .int .i64 s.val], Hp.rec_ S [cv, ov, n0, n1, n2, n3], Hp.own Fsd 3 cv cs, R]) rfl ?_
    refine Gx.eff0 rfl rfl (eff_storeElA s rfl Try.ty51 rfl rfl rfl FS_one (k := 2) rfl FS_len hci (l' := [Hp.rec_ b1 [.int .i64 ((s.n : Nat) : Int), .int .i64 ((s.who : Nat) : Int), .int .i64 s.val], Hp.rec_ S [cv, ov, n0, n1, n2, n3], Hp.own Fsd 3 cv (cs.set i s), R]) rfl) ?_
    rintro _ _ rfl
    refine Gx.done ?_
    refine Gx.endN ?_
    refine Gx.drop 0 rfl ?_
    refine Gx.ret0 Try.results16 ?_
    exact ⟨rfl, by unfold storeR; rw [hci]; dsimp only; rw [h2]; exact sep2 _ _ _⟩
  · refine Gx.skip ?_
    refine Gx.endN ?_
    refine Gx.drop 0 rfl ?_
    refine Gx.ret0 Try.results16 ?_
    exact ⟨rfl, by unfold storeR; rw [hci]; dsimp only; rw [h2]; exact sep2 _ _ _⟩

end Go.Proofs.Ytjiefamdpbnngaa
