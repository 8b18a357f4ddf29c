/- Backwards. The walk. No condition. -/
import Derived.Test.YtfpkfbffpkjgbaaS21
namespace Go.Proofs.Ytfpkfbffpkjgbaa
open Go.RowKit
set_option linter.unusedVariables false
set_option linter.unusedSimpArgs false
set_option maxRecDepth 100000

theorem rev_any {W w : World} {v : Value} {xs : List Dk} {R : Hp} {a b : Nat} (hab : a ≤ b) (hb : b ≤ xs.length) (hl : xs.length ≤ 65000) (H : Sat W w (Hp.own FK 3 v xs * R)) :
    Calls Try.prog 54 #[v, .int .i64 ((a : Nat) : Int), .int .i64 ((b : Nat) : Int), .func (.func 26) #[] #[]] w (Ret W fun u l => ∃ ys, Sh a b xs ys ∧ u = .tuple #[] ∧ sep l = Hp.own FK 3 v ys * R) := by
  refine Gx.enter (l := [Hp.own FK 3 v xs, R]) Try.func54 rfl Try.ntmps54 rfl (H.frame1) ?_
  refine Gx.know (m' := [(0, v), (1, .int .i64 ((a : Nat) : Int)), (2, .int .i64 ((b : Nat) : Int)), (3, .func (.func 26) #[] #[])]) (.cons rfl (.cons rfl (.cons rfl (.cons rfl .nil)))) ?_
  refine Gx.seq ?_
  refine Gx.region ?_
  refine Gx.val rfl rfl rfl (val_move rfl rfl) ?_
  refine Gx.val rfl rfl rfl (val_assign rfl rfl) ?_
  refine Gx.done ?_
  refine Gx.thenN ?_
  refine Gx.seq ?_
  refine Gx.region ?_
  refine Gx.val rfl rfl rfl (val_move rfl rfl) ?_
  refine Gx.val rfl rfl rfl (val_sub rfl rfl rfl (r := (((b : Nat) : Int) - 1)) (w64 rfl (by omega))) ?_
  refine Gx.val rfl rfl rfl (val_assign rfl rfl) ?_
  refine Gx.done ?_
  refine Gx.thenN ?_
  refine Gx.block ?_
  refine Gx.loop (ι := Nat × Nat × (List Dk)) (fun ξ => (a ≤ ξ.1) ∧ (ξ.1 ≤ ξ.2.1) ∧ (ξ.2.1 ≤ b) ∧ (Sh a b xs ξ.2.2)) (fun ξ => [(0, v), (8, .int .i64 ((ξ.1 : Nat) : Int)), (9, .int .i64 (((ξ.2.1 : Nat) : Int) - 1))]) (fun ξ => [Hp.own FK 3 v ξ.2.2, R]) (fun ξ => ξ.2.1 - ξ.1) (a, b, xs) ⟨by first | omega | (dsimp only; omega), by first | omega | (dsimp only; omega), by first | omega | (dsimp only; omega), Sh.refl _⟩ ((.cons rfl (.cons rfl (.cons rfl .nil)))) rfl ?_
  rintro ⟨i, k, L⟩ ⟨hai, hik, hkb, hsh⟩
  dsimp only at hai hik hkb hsh
  refine Gx.know (m' := [(0, v), (8, .int .i64 ((i : Nat) : Int)), (9, .int .i64 (((k : Nat) : Int) - 1))]) (.cons rfl (.cons rfl (.cons rfl .nil))) (Gx.norm (l' := [Hp.own FK 3 v L, R]) rfl ?_)
  refine Gx.seq ?_
  refine Gx.seq ?_
  refine Gx.region ?_
  refine Gx.val rfl rfl rfl (val_move rfl rfl) ?_
  refine Gx.val rfl rfl rfl (val_move rfl rfl) ?_
  refine Gx.val rfl rfl rfl (val_lss rfl rfl rfl) ?_
  refine Gx.done ?_
  refine Gx.thenN ?_
  refine Gx.dec rfl (fun h1 => ?_) (fun h1 => ?_)
  · refine Gx.skip ?_
    refine Gx.thenN ?_
    refine Gx.block ?_
    refine Gx.seq ?_
    obtain ⟨k, rfl⟩ : ∃ k', k = k' + 1 := ⟨k - 1, by omega⟩
    refine Gx.slot (t := 9) (v := .int .i64 ((k : Nat) : Int)) (by rw [show ((k : Nat) : Int) = (((k + 1 : Nat) : Int) - 1) from by omega]; rfl) ?_
    have hL := hsh.len
    obtain ⟨x, hx⟩ := get_of_lt (xs := L) (k := i) (by omega)
    obtain ⟨y, hy⟩ := get_of_lt (xs := L) (k := k) (by omega)
    refine Gx.regionO (fun j => j == 13) 15 [0, 1, 2, 3, 4, 5, 6, 7, 8, 9, 10, 11, 12, 13, 14] (fun us => match us with | [] => [Hp.own FK 3 v L, R] | u1 :: _ => [Hp.own FK 3 v (L.set i y), R]) Try.mixed (by kernel_rfl) rfl ?_
    refine Gw.val rfl rfl rfl rfl rfl (fun us => val_move rfl rfl) ?_
    refine Gw.val rfl rfl rfl rfl rfl (fun us => val_move rfl rfl) ?_
    refine Gw.val rfl rfl rfl rfl rfl (fun us => val_move rfl rfl) ?_
    refine Gw.val rfl rfl rfl rfl rfl (fun us => val_move rfl rfl) ?_
    refine Gw.val rfl rfl rfl rfl rfl (fun us => val_move rfl rfl) ?_
    refine Gw.val rfl rfl rfl rfl rfl (fun us => val_move rfl rfl) ?_
    refine Gw.val0 rfl rfl rfl (by kernel_rfl) rfl rfl (val_ixa rfl Try.underlying25 Try.ty59 rfl rfl (j := k) (rfl) (reach_own (k := 0) rfl hy)) ?_
    refine Gw.val0 rfl rfl rfl (by kernel_rfl) rfl rfl (Val.cast (val_loadA rfl Try.ty59 rfl rfl rfl (cells_own (k := 0) rfl hy)) (v' := .agg #[.int .i64 y.1.item, .int .i64 y.1.who, .int .i64 y.1.n]) rfl) ?_
    refine Gw.val rfl rfl rfl rfl rfl (fun us => val_move rfl rfl) ?_
    refine Gw.val rfl rfl rfl rfl rfl (fun us => val_move rfl rfl) ?_
    obtain ⟨x2, hx2⟩ := get_of_lt (xs := L.set i y) (k := i) (by first | omega | (simp; omega))
    refine Gw.val rfl rfl rfl rfl rfl (fun us => match us with | [] => val_ixa rfl Try.underlying25 Try.ty59 rfl rfl (j := i) (rfl) (reach_own (k := 0) rfl hx) | u1 :: _ => val_ixa rfl Try.underlying25 Try.ty59 rfl rfl (j := i) (rfl) (reach_own (k := 0) rfl hx2)) ?_
    refine Gw.val0 rfl rfl rfl (by kernel_rfl) rfl rfl (Val.cast (val_loadA rfl Try.ty59 rfl rfl rfl (cells_own (k := 0) rfl hx)) (v' := .agg #[.int .i64 x.1.item, .int .i64 x.1.who, .int .i64 x.1.n]) rfl) ?_
    refine Gw.val0 rfl rfl rfl (by kernel_rfl) rfl rfl (val_ixa rfl Try.underlying25 Try.ty59 rfl rfl (j := i) (rfl) (reach_own (k := 0) rfl hx)) ?_
    refine Gw.chg0 rfl rfl rfl rfl (Eff.mono (eff_storeElA y rfl Try.ty59 rfl rfl rfl FK_one (k := 0) rfl FK_len hx (l' := [Hp.own FK 3 v (L.set i y), R]) rfl) (fun _ _ h => congrArg sep h)) (fun _ => ?_)
    refine Gw.val0 rfl rfl rfl (by kernel_rfl) rfl rfl (val_ixa rfl Try.underlying25 Try.ty59 rfl rfl (j := k) (rfl) (reach_own (k := 0) rfl (set_keep hy (by omega)))) ?_
    refine Gw.done ?_
    refine Gx.norm (l' := [Hp.own FK 3 v (L.set i y), R]) rfl ?_
    refine Gx.eff0 rfl rfl (eff_storeElA x rfl Try.ty59 rfl rfl rfl FK_one (k := 0) rfl FK_len (set_keep hy (by omega)) (l' := [Hp.own FK 3 v ((L.set i y).set k x), R]) rfl) ?_
    rintro _ _ rfl
    refine Gx.done ?_
    refine Gx.thenN ?_
    refine Gx.seq ?_
    refine Gx.region ?_
    refine Gx.val rfl rfl rfl (val_move rfl rfl) ?_
    refine Gx.val rfl rfl rfl (val_add rfl rfl rfl (r := ((i + 1 : Nat) : Int)) (w64 (by omega) (by omega))) ?_
    refine Gx.val rfl rfl rfl (val_assign rfl rfl) ?_
    refine Gx.done ?_
    refine Gx.thenN ?_
    refine Gx.region ?_
    refine Gx.val rfl rfl rfl (val_move rfl rfl) ?_
    refine Gx.val rfl rfl rfl (val_sub rfl rfl rfl (r := (((k : Nat) : Int) - 1)) (w64 rfl (by omega))) ?_
    refine Gx.val rfl rfl rfl (val_assign rfl rfl) ?_
    refine Gx.done ?_
    refine Gx.blkN ?_
    refine Gx.thenN ?_
    exact Gx.round (i + 1, k, (L.set i y).set k x) ⟨by first | omega | (dsimp only; omega), by first | omega | (dsimp only; omega), by first | omega | (dsimp only; omega), Sh.swap hsh (by omega) (by omega) (by omega) (by omega) hx hy⟩ (by first | omega | (dsimp only; omega)) ((.cons rfl (.cons rfl (.cons rfl .nil)))) rfl
  refine Gx.exit ?_
  refine Gx.thenE ?_
  refine Gx.thenE ?_
  refine Gx.blkE ?_
  refine Gx.endN ?_
  refine Gx.ret0 Try.results54 ?_
  exact ⟨_, hsh, rfl, sep1 _ _⟩

end Go.Proofs.Ytfpkfbffpkjgbaa
