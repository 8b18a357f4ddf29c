/- The library's sort by insertion. The walk. No condition. -/
import Derived.Test.YtfpkfbffpkjgbaaS22
namespace Go.Proofs.Ytfpkfbffpkjgbaa
open Go.RowKit
set_option linter.unusedVariables false
set_option linter.unusedSimpArgs false
set_option maxRecDepth 100000

theorem ins_any {W w : World} {v : Value} {xs : List Dk} {R : Hp} {a b : Nat} (hab : a ≤ b) (hb : b ≤ xs.length) (hl : xs.length ≤ 65000) (H : Sat W w (Hp.own FK 3 v xs * R)) :
    Calls Try.prog 50 #[v, .int .i64 ((a : Nat) : Int), .int .i64 ((b : Nat) : Int), .func (.func 26) #[] #[]] w (Ret W fun u l => ∃ ys, Sh a b xs ys ∧ Srt a b ys ∧ u = .tuple #[] ∧ sep l = Hp.own FK 3 v ys * R) := by
  refine Gx.enter (l := [Hp.own FK 3 v xs, R]) Try.func50 rfl Try.ntmps50 rfl (H.frame1) ?_
  refine Gx.know (m' := [(0, v), (1, .int .i64 ((a : Nat) : Int)), (2, .int .i64 ((b : Nat) : Int)), (3, .func (.func 26) #[] #[])]) (.cons rfl (.cons rfl (.cons rfl (.cons rfl .nil)))) ?_
  refine Gx.seq ?_
  refine Gx.region ?_
  refine Gx.val rfl rfl rfl (val_move rfl rfl) ?_
  refine Gx.val rfl rfl rfl (val_add rfl rfl rfl (r := ((a + 1 : Nat) : Int)) (w64 (by omega) (by omega))) ?_
  refine Gx.val rfl rfl rfl (val_assign rfl rfl) ?_
  refine Gx.done ?_
  refine Gx.thenN ?_
  refine Gx.block ?_
  refine Gx.loop (ι := Nat × (List Dk)) (fun ξ => (a + 1 ≤ ξ.1) ∧ (ξ.1 ≤ b ∨ ξ.1 = a + 1) ∧ (Sh a b xs ξ.2) ∧ (Srt a ξ.1 ξ.2)) (fun ξ => [(0, v), (1, .int .i64 ((a : Nat) : Int)), (2, .int .i64 ((b : Nat) : Int)), (3, .func (.func 26) #[] #[]), (8, .int .i64 ((ξ.1 : Nat) : Int))]) (fun ξ => [Hp.own FK 3 v ξ.2, R]) (fun ξ => b - ξ.1) (a + 1, xs) ⟨by first | omega | (dsimp only; omega), by first | omega | (dsimp only; omega), Sh.refl _, Srt.one _ _⟩ ((.cons rfl (.cons rfl (.cons rfl (.cons rfl (.cons rfl .nil)))))) rfl ?_
  rintro ⟨i, L⟩ ⟨hai, hib, hsh, hs⟩
  dsimp only at hai hib hsh hs
  refine Gx.know (m' := [(0, v), (1, .int .i64 ((a : Nat) : Int)), (2, .int .i64 ((b : Nat) : Int)), (3, .func (.func 26) #[] #[]), (8, .int .i64 ((i : Nat) : Int))]) (.cons rfl (.cons rfl (.cons rfl (.cons rfl (.cons rfl .nil))))) (Gx.norm (l' := [Hp.own FK 3 v L, R]) rfl ?_)
  refine Gx.seq ?_
  refine Gx.seq ?_
  refine Gx.region ?_
  refine Gx.val rfl rfl rfl (val_move rfl rfl) ?_
  refine Gx.val rfl rfl rfl (val_move rfl rfl) ?_
  refine Gx.val rfl rfl rfl (val_lss rfl rfl rfl) ?_
  refine Gx.done ?_
  refine Gx.thenN ?_
  refine Gx.dec rfl (fun h1 => ?_) (fun h1 => ?_)
  · refine Gx.skip ?_
    refine Gx.thenN ?_
    refine Gx.seq ?_
    refine Gx.block ?_
    refine Gx.seq ?_
    refine Gx.region ?_
    refine Gx.val rfl rfl rfl (val_move rfl rfl) ?_
    refine Gx.val rfl rfl rfl (val_assign rfl rfl) ?_
    refine Gx.done ?_
    refine Gx.thenN ?_
    refine Gx.block ?_
    refine Gx.loop (ι := Nat × (List Dk)) (fun ξ => (a ≤ ξ.1) ∧ (ξ.1 ≤ i) ∧ (Sh a b xs ξ.2) ∧ (Ins a i ξ.1 ξ.2)) (fun ξ => [(0, v), (1, .int .i64 ((a : Nat) : Int)), (2, .int .i64 ((b : Nat) : Int)), (3, .func (.func 26) #[] #[]), (8, .int .i64 ((i : Nat) : Int)), (9, .int .i64 ((ξ.1 : Nat) : Int))]) (fun ξ => [Hp.own FK 3 v ξ.2, R]) (fun ξ => ξ.1) (i, L) ⟨by first | omega | (dsimp only; omega), by first | omega | (dsimp only; omega), hsh, Srt.ins hs⟩ ((.cons rfl (.cons rfl (.cons rfl (.cons rfl (.cons rfl (.cons rfl .nil))))))) rfl ?_
    rintro ⟨j, M⟩ ⟨haj, hji, hsh2, hin⟩
    dsimp only at haj hji hsh2 hin
    refine Gx.know (m' := [(0, v), (1, .int .i64 ((a : Nat) : Int)), (2, .int .i64 ((b : Nat) : Int)), (3, .func (.func 26) #[] #[]), (8, .int .i64 ((i : Nat) : Int)), (9, .int .i64 ((j : Nat) : Int))]) (.cons rfl (.cons rfl (.cons rfl (.cons rfl (.cons rfl (.cons rfl .nil)))))) (Gx.norm (l' := [Hp.own FK 3 v M, R]) rfl ?_)
    rcases (show j = a ∨ ∃ j', j = j' + 1 ∧ a ≤ j' from by rcases Nat.lt_or_ge a j with q | q; exact .inr ⟨j - 1, by omega, by omega⟩; exact .inl (by omega)) with hja | ⟨j, rfl, haj2⟩
    · refine Gx.know (m' := [(0, v), (1, .int .i64 ((a : Nat) : Int)), (2, .int .i64 ((b : Nat) : Int)), (3, .func (.func 26) #[] #[]), (8, .int .i64 ((i : Nat) : Int)), (9, .int .i64 ((j : Nat) : Int))]) (.cons rfl (.cons rfl (.cons rfl (.cons rfl (.cons rfl (.cons rfl .nil)))))) (Gx.norm (l' := [Hp.own FK 3 v M, R]) rfl ?_)
      refine Gx.seq ?_
      refine Gx.seq ?_
      have hM := hsh2.len
      refine Gx.regionQ Try.mixed (by kernel_rfl) ?_
      refine Gq.val rfl rfl rfl (val_move rfl rfl) ?_
      refine Gq.val rfl rfl rfl (val_move rfl rfl) ?_
      refine Gq.val rfl rfl rfl (val_gtr rfl rfl rfl) ?_
      refine Gq.val rfl rfl rfl (val_move rfl rfl) ?_
      refine Gq.slot (t := 21) (v := .bool false) (look_decF rfl (by omega)) ?_
      refine Gq.skipg rfl rfl rfl rfl rfl rfl ?_
      refine Gq.skipg rfl rfl rfl rfl rfl rfl ?_
      refine Gq.skipg rfl rfl rfl rfl rfl rfl ?_
      refine Gq.skipg rfl rfl rfl rfl rfl rfl ?_
      refine Gq.skipg rfl rfl rfl rfl rfl rfl ?_
      refine Gq.skipg rfl rfl rfl rfl rfl rfl ?_
      refine Gq.skipg rfl rfl rfl rfl rfl rfl ?_
      refine Gq.skipg rfl rfl rfl rfl rfl rfl ?_
      refine Gq.skipg rfl rfl rfl rfl rfl rfl ?_
      refine Gq.skipg rfl rfl rfl rfl rfl rfl ?_
      refine Gq.skipg rfl rfl rfl rfl rfl rfl ?_
      refine Gq.skipg rfl rfl rfl rfl rfl rfl ?_
      refine Gq.val rfl rfl rfl (val_pickF rfl rfl rfl) ?_
      refine Gq.done ?_
      refine Gx.thenN ?_
      refine Gx.f rfl ?_
      refine Gx.exit ?_
      refine Gx.thenE ?_
      refine Gx.thenE ?_
      refine Gx.blkE ?_
      refine Gx.blkN ?_
      refine Gx.thenN ?_
      refine Gx.region ?_
      refine Gx.val rfl rfl rfl (val_move rfl rfl) ?_
      refine Gx.val rfl rfl rfl (val_add rfl rfl rfl (r := ((i + 1 : Nat) : Int)) (w64 (by omega) (by omega))) ?_
      refine Gx.val rfl rfl rfl (val_assign rfl rfl) ?_
      refine Gx.done ?_
      refine Gx.thenN ?_
      exact Gx.round (i + 1, M) ⟨by first | omega | (dsimp only; omega), by first | omega | (dsimp only; omega), hsh2, Ins.done hin (.inl (by omega))⟩ (by first | omega | (dsimp only; omega)) ((.cons rfl (.cons rfl (.cons rfl (.cons rfl (.cons rfl .nil)))))) rfl
    · refine Gx.know (m' := [(0, v), (1, .int .i64 ((a : Nat) : Int)), (2, .int .i64 ((b : Nat) : Int)), (3, .func (.func 26) #[] #[]), (8, .int .i64 ((i : Nat) : Int)), (9, .int .i64 (((j + 1) : Nat) : Int))]) (.cons rfl (.cons rfl (.cons rfl (.cons rfl (.cons rfl (.cons rfl .nil)))))) (Gx.norm (l' := [Hp.own FK 3 v M, R]) rfl ?_)
      refine Gx.seq ?_
      refine Gx.seq ?_
      have hM := hsh2.len
      obtain ⟨x, hx⟩ := get_of_lt (xs := M) (k := j) (by omega)
      obtain ⟨y, hy⟩ := get_of_lt (xs := M) (k := j + 1) (by omega)
      refine Gx.regionQ Try.mixed (by kernel_rfl) ?_
      refine Gq.val rfl rfl rfl (val_move rfl rfl) ?_
      refine Gq.val rfl rfl rfl (val_move rfl rfl) ?_
      refine Gq.val rfl rfl rfl (val_gtr rfl rfl rfl) ?_
      refine Gq.val rfl rfl rfl (val_move rfl rfl) ?_
      refine Gq.slot (t := 21) (v := .bool true) (look_decT rfl (by omega)) ?_
      refine Gq.valg rfl rfl rfl rfl rfl (val_move rfl rfl) ?_
      refine Gq.valg rfl rfl rfl rfl rfl (val_move rfl rfl) ?_
      refine Gq.valg rfl rfl rfl rfl rfl (val_move rfl rfl) ?_
      refine Gq.valg rfl rfl rfl rfl rfl (val_ixa rfl Try.underlying25 Try.ty59 rfl rfl (j := (j + 1)) (rfl) (reach_own (k := 0) rfl hy)) ?_
      refine Gq.valg rfl rfl rfl rfl rfl (Val.cast (val_loadA rfl Try.ty59 rfl rfl rfl (cells_own (sz := 3) (j := (j + 1)) (k := 0) rfl hy)) (v' := .agg #[.int .i64 y.1.item, .int .i64 y.1.who, .int .i64 y.1.n]) rfl) ?_
      refine Gq.valg rfl rfl rfl rfl rfl (val_move rfl rfl) ?_
      refine Gq.valg rfl rfl rfl rfl rfl (val_move rfl rfl) ?_
      refine Gq.valg rfl rfl rfl rfl rfl (val_sub rfl rfl rfl (r := ((j : Nat) : Int)) (w64 (by omega) (by omega))) ?_
      refine Gq.valg rfl rfl rfl rfl rfl (val_ixa rfl Try.underlying25 Try.ty59 rfl rfl (j := j) (rfl) (reach_own (k := 0) rfl hx)) ?_
      refine Gq.valg rfl rfl rfl rfl rfl (Val.cast (val_loadA rfl Try.ty59 rfl rfl rfl (cells_own (k := 0) rfl hx)) (v' := .agg #[.int .i64 x.1.item, .int .i64 x.1.who, .int .i64 x.1.n]) rfl) ?_
      refine Gq.valg rfl rfl rfl rfl rfl (val_callV (vs := [.agg #[.int .i64 y.1.item, .int .i64 y.1.who, .int .i64 y.1.n], .agg #[.int .i64 x.1.item, .int .i64 x.1.who, .int .i64 x.1.n]]) (fs := []) (cs := []) rfl Try.fn26 rfl rfl (fun w H => dots_any y.1 x.1)) ?_
      refine Gq.valg rfl rfl rfl rfl rfl (Val.cast (val_lss rfl rfl rfl) (v' := .bool (decide (kK y < kK x))) (congrArg Value.bool (decide_eq_decide.2 kK_lt))) ?_
      refine Gq.val rfl rfl rfl (val_pickT rfl rfl rfl) ?_
      refine Gq.done ?_
      refine Gx.thenN ?_
      refine Gx.dec rfl (fun h2 => ?_) (fun h2 => ?_)
      · refine Gx.skip ?_
        refine Gx.thenN ?_
        refine Gx.seq ?_
        refine Gx.block ?_
        refine Gx.regionO (fun j => j == 15) 17 [0, 1, 2, 3, 4, 5, 6, 7, 8, 9, 10, 11, 12, 13, 14, 15, 16] (fun us => match us with | [] => [Hp.own FK 3 v M, R] | u1 :: _ => [Hp.own FK 3 v (M.set (j + 1) x), R]) Try.mixed (by kernel_rfl) rfl ?_
        refine Gw.val rfl rfl rfl rfl rfl (fun us => val_move rfl rfl) ?_
        refine Gw.val rfl rfl rfl rfl rfl (fun us => val_move rfl rfl) ?_
        refine Gw.val rfl rfl rfl rfl rfl (fun us => val_move rfl rfl) ?_
        refine Gw.val rfl rfl rfl rfl rfl (fun us => val_move rfl rfl) ?_
        refine Gw.val rfl rfl rfl rfl rfl (fun us => val_sub rfl rfl rfl (r := ((j : Nat) : Int)) (w64 (by omega) (by omega))) ?_
        refine Gw.val rfl rfl rfl rfl rfl (fun us => val_move rfl rfl) ?_
        refine Gw.val rfl rfl rfl rfl rfl (fun us => val_move rfl rfl) ?_
        refine Gw.val rfl rfl rfl rfl rfl (fun us => val_sub rfl rfl rfl (r := ((j : Nat) : Int)) (w64 (by omega) (by omega))) ?_
        refine Gw.val0 rfl rfl rfl (by kernel_rfl) rfl rfl (val_ixa rfl Try.underlying25 Try.ty59 rfl rfl (j := j) (rfl) (reach_own (k := 0) rfl hx)) ?_
        refine Gw.val0 rfl rfl rfl (by kernel_rfl) rfl rfl (Val.cast (val_loadA rfl Try.ty59 rfl rfl rfl (cells_own (k := 0) rfl hx)) (v' := .agg #[.int .i64 x.1.item, .int .i64 x.1.who, .int .i64 x.1.n]) rfl) ?_
        refine Gw.val rfl rfl rfl rfl rfl (fun us => val_move rfl rfl) ?_
        refine Gw.val rfl rfl rfl rfl rfl (fun us => val_move rfl rfl) ?_
        obtain ⟨x3, hx3⟩ := get_of_lt (xs := M.set (j + 1) x) (k := (j + 1)) (by first | omega | (simp; omega))
        refine Gw.val rfl rfl rfl rfl rfl (fun us => match us with | [] => val_ixa rfl Try.underlying25 Try.ty59 rfl rfl (j := (j + 1)) (rfl) (reach_own (k := 0) rfl hy) | u1 :: _ => val_ixa rfl Try.underlying25 Try.ty59 rfl rfl (j := (j + 1)) (rfl) (reach_own (k := 0) rfl hx3)) ?_
        refine Gw.val0 rfl rfl rfl (by kernel_rfl) rfl rfl (Val.cast (val_loadA rfl Try.ty59 rfl rfl rfl (cells_own (sz := 3) (j := (j + 1)) (k := 0) rfl hy)) (v' := .agg #[.int .i64 y.1.item, .int .i64 y.1.who, .int .i64 y.1.n]) rfl) ?_
        refine Gw.val0 rfl rfl rfl (by kernel_rfl) rfl rfl (val_ixa rfl Try.underlying25 Try.ty59 rfl rfl (j := (j + 1)) (rfl) (reach_own (k := 0) rfl hy)) ?_
        refine Gw.chg0 rfl rfl rfl rfl (Eff.mono (eff_storeElA x rfl Try.ty59 rfl rfl rfl FK_one (k := 0) rfl FK_len hy (l' := [Hp.own FK 3 v (M.set (j + 1) x), R]) rfl) (fun _ _ h => congrArg sep h)) (fun _ => ?_)
        obtain ⟨x4, hx4⟩ := get_of_lt (xs := M.set (j + 1) x) (k := j) (by first | omega | (simp; omega))
        refine Gw.val0 rfl rfl rfl (by kernel_rfl) rfl rfl (val_ixa rfl Try.underlying25 Try.ty59 rfl rfl (j := j) (rfl) (reach_own (k := 0) rfl hx4)) ?_
        refine Gw.done ?_
        refine Gx.norm (l' := [Hp.own FK 3 v (M.set (j + 1) x), R]) rfl ?_
        refine Gx.eff0 rfl rfl (eff_storeElA y rfl Try.ty59 rfl rfl rfl FK_one (k := 0) rfl FK_len hx4 (l' := [Hp.own FK 3 v ((M.set (j + 1) x).set j y), R]) rfl) ?_
        rintro _ _ rfl
        refine Gx.done ?_
        refine Gx.blkN ?_
        refine Gx.thenN ?_
        refine Gx.region ?_
        refine Gx.val rfl rfl rfl (val_move rfl rfl) ?_
        refine Gx.val rfl rfl rfl (val_sub rfl rfl rfl (r := ((j : Nat) : Int)) (w64 (by omega) (by omega))) ?_
        refine Gx.val rfl rfl rfl (val_assign rfl rfl) ?_
        refine Gx.done ?_
        refine Gx.thenN ?_
        exact Gx.round (j, (M.set (j + 1) x).set j y) ⟨by first | omega | (dsimp only; omega), by first | omega | (dsimp only; omega), Sh.swap hsh2 (by omega) (by omega) (by omega) (by omega) hy hx, hin.swap haj2 (by omega) hx hy (by omega)⟩ (by first | omega | (dsimp only; omega)) ((.cons rfl (.cons rfl (.cons rfl (.cons rfl (.cons rfl (.cons rfl .nil))))))) rfl
      refine Gx.exit ?_
      refine Gx.thenE ?_
      refine Gx.thenE ?_
      refine Gx.blkE ?_
      refine Gx.blkN ?_
      refine Gx.thenN ?_
      refine Gx.region ?_
      refine Gx.val rfl rfl rfl (val_move rfl rfl) ?_
      refine Gx.val rfl rfl rfl (val_add rfl rfl rfl (r := ((i + 1 : Nat) : Int)) (w64 (by omega) (by omega))) ?_
      refine Gx.val rfl rfl rfl (val_assign rfl rfl) ?_
      refine Gx.done ?_
      refine Gx.thenN ?_
      exact Gx.round (i + 1, M) ⟨by first | omega | (dsimp only; omega), by first | omega | (dsimp only; omega), hsh2, Ins.done hin (.inr ⟨by omega, x, y, hx, hy, by omega⟩)⟩ (by first | omega | (dsimp only; omega)) ((.cons rfl (.cons rfl (.cons rfl (.cons rfl (.cons rfl .nil)))))) rfl
  refine Gx.exit ?_
  refine Gx.thenE ?_
  refine Gx.thenE ?_
  refine Gx.blkE ?_
  refine Gx.endN ?_
  refine Gx.ret0 Try.results50 ?_
  exact ⟨_, hsh, fun p q x y h0 h1 h2 => hs p q x y h0 h1 (by omega), rfl, sep1 _ _⟩

end Go.Proofs.Ytfpkfbffpkjgbaa
