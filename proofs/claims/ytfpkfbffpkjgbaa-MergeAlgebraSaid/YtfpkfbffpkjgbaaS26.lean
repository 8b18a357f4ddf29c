/- The library's sort by a heap. The walk. No condition. -/
import Derived.Test.YtfpkfbffpkjgbaaS25
namespace Go.Proofs.Ytfpkfbffpkjgbaa
open Go.RowKit
set_option linter.unusedVariables false
set_option linter.unusedSimpArgs false
set_option maxRecDepth 100000

theorem heap_any {W w : World} {v : Value} {xs : List Dk} {R : Hp} {a b : Nat} (hab : a < b) (hb : b ≤ xs.length) (hl : xs.length ≤ 65000) (H : Sat W w (Hp.own FK 3 v xs * R)) :
    Calls Try.prog 51 #[v, .int .i64 ((a : Nat) : Int), .int .i64 ((b : Nat) : Int), .func (.func 26) #[] #[]] w (Ret W fun u l => ∃ ys, Sh a b xs ys ∧ Srt a b ys ∧ u = .tuple #[] ∧ sep l = Hp.own FK 3 v ys * R) := by
  refine Gx.enter (l := [Hp.own FK 3 v xs, R]) Try.func51 rfl Try.ntmps51 rfl (H.frame1) ?_
  refine Gx.know (m' := [(0, v), (1, .int .i64 ((a : Nat) : Int)), (2, .int .i64 ((b : Nat) : Int)), (3, .func (.func 26) #[] #[])]) (.cons rfl (.cons rfl (.cons rfl (.cons rfl .nil)))) ?_
  refine Gx.seq ?_
  refine Gx.region ?_
  refine Gx.val rfl rfl rfl (val_move rfl rfl) ?_
  refine Gx.val rfl rfl rfl (val_assign rfl rfl) ?_
  refine Gx.done ?_
  refine Gx.thenN ?_
  refine Gx.seq ?_
  refine Gx.region ?_
  refine Gx.val rfl rfl rfl (val_assign rfl rfl) ?_
  refine Gx.done ?_
  refine Gx.thenN ?_
  refine Gx.seq ?_
  refine Gx.region ?_
  refine Gx.val rfl rfl rfl (val_move rfl rfl) ?_
  refine Gx.val rfl rfl rfl (val_move rfl rfl) ?_
  refine Gx.val rfl rfl rfl (val_sub rfl rfl rfl (r := ((b - a : Nat) : Int)) (w64 (by omega) (by omega))) ?_
  refine Gx.val rfl rfl rfl (val_assign rfl rfl) ?_
  refine Gx.done ?_
  refine Gx.thenN ?_
  refine Gx.seq ?_
  refine Gx.seq ?_
  refine Gx.region ?_
  refine Gx.val rfl rfl rfl (val_move rfl rfl) ?_
  refine Gx.val rfl rfl rfl (val_sub rfl rfl rfl (r := ((b - a - 1 : Nat) : Int)) (w64 (by omega) (by omega))) ?_
  refine Gx.val rfl rfl rfl (val_quo rfl rfl rfl (r := (((b - a - 1) / 2 : Nat) : Int)) (by omega) (q64 (a := b - a - 1) (m := 2) (by omega) rfl (by omega))) ?_
  refine Gx.val rfl rfl rfl (val_assign rfl rfl) ?_
  refine Gx.done ?_
  refine Gx.thenN ?_
  refine Gx.block ?_
  refine Gx.slot (t := 11) (v := .int .i64 ((((b - a - 1) / 2 + 1 : Nat) : Int) - 1)) (by rw [show ((((b - a - 1) / 2 + 1 : Nat) : Int) - 1) = (((b - a - 1) / 2 : Nat) : Int) from by omega]; rfl) ?_
  refine Gx.loop (ι := Nat × (List Dk)) (fun ξ => (ξ.1 ≤ (b - a - 1) / 2 + 1) ∧ (Sh a b xs ξ.2) ∧ (Heap ξ.2 a ξ.1 (b - a))) (fun ξ => [(0, v), (1, .int .i64 ((a : Nat) : Int)), (2, .int .i64 ((b : Nat) : Int)), (3, .func (.func 26) #[] #[]), (8, .int .i64 ((a : Nat) : Int)), (9, .int .i64 0), (10, .int .i64 ((b - a : Nat) : Int)), (11, .int .i64 (((ξ.1 : Nat) : Int) - 1))]) (fun ξ => [Hp.own FK 3 v ξ.2, R]) (fun ξ => ξ.1) ((b - a - 1) / 2 + 1, xs) ⟨by first | omega | (dsimp only; omega), Sh.refl _, fun p c x y h0 h1 h2 => by omega⟩ ((.cons rfl (.cons rfl (.cons rfl (.cons rfl (.cons rfl (.cons rfl (.cons rfl (.cons rfl .nil))))))))) rfl ?_
  rintro ⟨k, L⟩ ⟨hk, hsh, hh⟩
  dsimp only at hk hsh hh
  refine Gx.know (m' := [(0, v), (1, .int .i64 ((a : Nat) : Int)), (2, .int .i64 ((b : Nat) : Int)), (3, .func (.func 26) #[] #[]), (8, .int .i64 ((a : Nat) : Int)), (9, .int .i64 0), (10, .int .i64 ((b - a : Nat) : Int)), (11, .int .i64 (((k : Nat) : Int) - 1))]) (.cons rfl (.cons rfl (.cons rfl (.cons rfl (.cons rfl (.cons rfl (.cons rfl (.cons rfl .nil)))))))) (Gx.norm (l' := [Hp.own FK 3 v L, R]) rfl ?_)
  refine Gx.seq ?_
  refine Gx.seq ?_
  refine Gx.region ?_
  refine Gx.val rfl rfl rfl (val_move rfl rfl) ?_
  refine Gx.val rfl rfl rfl (val_geq rfl rfl rfl) ?_
  refine Gx.done ?_
  refine Gx.thenN ?_
  refine Gx.dec rfl (fun h1 => ?_) (fun h1 => ?_)
  · refine Gx.skip ?_
    refine Gx.thenN ?_
    refine Gx.seq ?_
    refine Gx.block ?_
    obtain ⟨k, rfl⟩ : ∃ k', k = k' + 1 := ⟨k - 1, by omega⟩
    refine Gx.slot (t := 11) (v := .int .i64 ((k : Nat) : Int)) (by rw [show ((k : Nat) : Int) = (((k + 1 : Nat) : Int) - 1) from by omega]; rfl) ?_
    have hL := hsh.len
    refine Gx.region ?_
    refine Gx.val rfl rfl rfl (val_move rfl rfl) ?_
    refine Gx.val rfl rfl rfl (val_move rfl rfl) ?_
    refine Gx.val rfl rfl rfl (val_move rfl rfl) ?_
    refine Gx.val rfl rfl rfl (val_move rfl rfl) ?_
    refine Gx.val rfl rfl rfl (val_move rfl rfl) ?_
    refine Gx.eff rfl rfl rfl (eff_call (vs := [v, .int .i64 ((k : Nat) : Int), .int .i64 ((b - a : Nat) : Int), .int .i64 ((a : Nat) : Int), .func (.func 26) #[] #[]]) rfl Try.fn60 rfl (fun w H => sift_any (lo := k) (hi := b - a) (f := a) (by omega) (by omega) (by omega) (Heap.mono_ (by omega) hh) (H.at_ (k := 0) rfl))) ?_
    rintro _ l3 ⟨ys2, hsy, hhy, rfl, hl3⟩
    refine Gx.sepEq (l' := [Hp.own FK 3 v ys2, R]) hl3 ?_
    refine Gx.done ?_
    refine Gx.blkN ?_
    refine Gx.thenN ?_
    refine Gx.region ?_
    refine Gx.val rfl rfl rfl (val_move rfl rfl) ?_
    refine Gx.val rfl rfl rfl (val_sub rfl rfl rfl (r := (((k : Nat) : Int) - 1)) (w64 rfl (by omega))) ?_
    refine Gx.val rfl rfl rfl (val_assign rfl rfl) ?_
    refine Gx.done ?_
    refine Gx.thenN ?_
    exact Gx.round (k, ys2) ⟨by first | omega | (dsimp only; omega), hsh.trans (hsy.mono (by omega) (by omega)), hhy⟩ (by first | omega | (dsimp only; omega)) ((.cons rfl (.cons rfl (.cons rfl (.cons rfl (.cons rfl (.cons rfl (.cons rfl (.cons rfl .nil))))))))) rfl
  refine Gx.exit ?_
  refine Gx.thenE ?_
  refine Gx.thenE ?_
  refine Gx.blkE ?_
  refine Gx.thenN ?_
  refine Gx.seq ?_
  obtain rfl : k = 0 := by omega
  have HS0 : HS L a (b - a) b := ⟨hh, fun p q x y h0 h1 h2 => by omega, fun p q x y h0 h1 h2 h3 => by omega⟩
  refine Gx.region ?_
  refine Gx.val rfl rfl rfl (val_move rfl rfl) ?_
  refine Gx.val rfl rfl rfl (val_sub rfl rfl rfl (r := (((b - a : Nat) : Int) - 1)) (w64 rfl (by omega))) ?_
  refine Gx.val rfl rfl rfl (val_assign rfl rfl) ?_
  refine Gx.done ?_
  refine Gx.thenN ?_
  refine Gx.block ?_
  refine Gx.loop (ι := Nat × (List Dk)) (fun ξ => (ξ.1 ≤ b - a) ∧ (Sh a b xs ξ.2) ∧ (HS ξ.2 a ξ.1 b)) (fun ξ => [(0, v), (1, .int .i64 ((a : Nat) : Int)), (2, .int .i64 ((b : Nat) : Int)), (3, .func (.func 26) #[] #[]), (8, .int .i64 ((a : Nat) : Int)), (9, .int .i64 0), (10, .int .i64 ((b - a : Nat) : Int)), (12, .int .i64 (((ξ.1 : Nat) : Int) - 1))]) (fun ξ => [Hp.own FK 3 v ξ.2, R]) (fun ξ => ξ.1) (b - a, L) ⟨by first | omega | (dsimp only; omega), hsh, HS0⟩ ((.cons rfl (.cons rfl (.cons rfl (.cons rfl (.cons rfl (.cons rfl (.cons rfl (.cons rfl .nil))))))))) rfl ?_
  rintro ⟨m, M⟩ ⟨hm, hsh2, HSh⟩
  dsimp only at hm hsh2 HSh
  refine Gx.know (m' := [(0, v), (1, .int .i64 ((a : Nat) : Int)), (2, .int .i64 ((b : Nat) : Int)), (3, .func (.func 26) #[] #[]), (8, .int .i64 ((a : Nat) : Int)), (9, .int .i64 0), (10, .int .i64 ((b - a : Nat) : Int)), (12, .int .i64 (((m : Nat) : Int) - 1))]) (.cons rfl (.cons rfl (.cons rfl (.cons rfl (.cons rfl (.cons rfl (.cons rfl (.cons rfl .nil)))))))) (Gx.norm (l' := [Hp.own FK 3 v M, R]) rfl ?_)
  refine Gx.seq ?_
  refine Gx.seq ?_
  refine Gx.region ?_
  refine Gx.val rfl rfl rfl (val_move rfl rfl) ?_
  refine Gx.val rfl rfl rfl (val_geq rfl rfl rfl) ?_
  refine Gx.done ?_
  refine Gx.thenN ?_
  refine Gx.dec rfl (fun h4 => ?_) (fun h4 => ?_)
  · refine Gx.skip ?_
    refine Gx.thenN ?_
    refine Gx.seq ?_
    refine Gx.block ?_
    refine Gx.seq ?_
    obtain ⟨m, rfl⟩ : ∃ m', m = m' + 1 := ⟨m - 1, by omega⟩
    refine Gx.slot (t := 12) (v := .int .i64 ((m : Nat) : Int)) (by rw [show ((m : Nat) : Int) = (((m + 1 : Nat) : Int) - 1) from by omega]; rfl) ?_
    have hM := hsh2.len
    obtain ⟨x, hx⟩ := get_of_lt (xs := M) (k := a) (by omega)
    obtain ⟨y, hy⟩ := get_of_lt (xs := M) (k := a + m) (by omega)
    refine Gx.regionO (fun j => j == 17) 19 [0, 1, 2, 3, 4, 5, 6, 7, 8, 9, 10, 11, 12, 13, 14, 15, 16, 17, 18] (fun us => match us with | [] => [Hp.own FK 3 v M, R] | u1 :: _ => [Hp.own FK 3 v (M.set a y), R]) Try.mixed (by kernel_rfl) rfl ?_
    refine Gw.val rfl rfl rfl rfl rfl (fun us => val_move rfl rfl) ?_
    refine Gw.val rfl rfl rfl rfl rfl (fun us => val_move rfl rfl) ?_
    refine Gw.val rfl rfl rfl rfl rfl (fun us => val_move rfl rfl) ?_
    refine Gw.val rfl rfl rfl rfl rfl (fun us => val_move rfl rfl) ?_
    refine Gw.val rfl rfl rfl rfl rfl (fun us => val_move rfl rfl) ?_
    refine Gw.val rfl rfl rfl rfl rfl (fun us => val_add rfl rfl rfl (r := ((a + m : Nat) : Int)) (w64 (by omega) (by omega))) ?_
    refine Gw.val rfl rfl rfl rfl rfl (fun us => val_move rfl rfl) ?_
    refine Gw.val rfl rfl rfl rfl rfl (fun us => val_move rfl rfl) ?_
    refine Gw.val rfl rfl rfl rfl rfl (fun us => val_move rfl rfl) ?_
    refine Gw.val rfl rfl rfl rfl rfl (fun us => val_add rfl rfl rfl (r := ((a + m : Nat) : Int)) (w64 (by omega) (by omega))) ?_
    refine Gw.val0 rfl rfl rfl (by kernel_rfl) rfl rfl (val_ixa rfl Try.underlying25 Try.ty59 rfl rfl (j := a + m) (rfl) (reach_own (k := 0) rfl hy)) ?_
    refine Gw.val0 rfl rfl rfl (by kernel_rfl) rfl rfl (Val.cast (val_loadA rfl Try.ty59 rfl rfl rfl (cells_own (sz := 3) (j := a + m) (k := 0) rfl hy)) (v' := .agg #[.int .i64 y.1.item, .int .i64 y.1.who, .int .i64 y.1.n]) rfl) ?_
    refine Gw.val rfl rfl rfl rfl rfl (fun us => val_move rfl rfl) ?_
    refine Gw.val rfl rfl rfl rfl rfl (fun us => val_move rfl rfl) ?_
    obtain ⟨x5, hx5⟩ := get_of_lt (xs := M.set a y) (k := a) (by first | omega | (simp; omega))
    refine Gw.val rfl rfl rfl rfl rfl (fun us => match us with | [] => val_ixa rfl Try.underlying25 Try.ty59 rfl rfl (j := a) (rfl) (reach_own (k := 0) rfl hx) | u1 :: _ => val_ixa rfl Try.underlying25 Try.ty59 rfl rfl (j := a) (rfl) (reach_own (k := 0) rfl hx5)) ?_
    refine Gw.val0 rfl rfl rfl (by kernel_rfl) rfl rfl (Val.cast (val_loadA rfl Try.ty59 rfl rfl rfl (cells_own (k := 0) rfl hx)) (v' := .agg #[.int .i64 x.1.item, .int .i64 x.1.who, .int .i64 x.1.n]) rfl) ?_
    refine Gw.val0 rfl rfl rfl (by kernel_rfl) rfl rfl (val_ixa rfl Try.underlying25 Try.ty59 rfl rfl (j := a) (rfl) (reach_own (k := 0) rfl hx)) ?_
    refine Gw.chg0 rfl rfl rfl rfl (Eff.mono (eff_storeElA y rfl Try.ty59 rfl rfl rfl FK_one (k := 0) rfl FK_len hx (l' := [Hp.own FK 3 v (M.set a y), R]) rfl) (fun _ _ h => congrArg sep h)) (fun _ => ?_)
    obtain ⟨x6, hx6⟩ := get_of_lt (xs := M.set a y) (k := a + m) (by first | omega | (simp; omega))
    refine Gw.val0 rfl rfl rfl (by kernel_rfl) rfl rfl (val_ixa rfl Try.underlying25 Try.ty59 rfl rfl (j := a + m) (rfl) (reach_own (k := 0) rfl hx6)) ?_
    refine Gw.done ?_
    refine Gx.norm (l' := [Hp.own FK 3 v (M.set a y), R]) rfl ?_
    refine Gx.eff0 rfl rfl (eff_storeElA x rfl Try.ty59 rfl rfl rfl FK_one (k := 0) rfl FK_len hx6 (l' := [Hp.own FK 3 v ((M.set a y).set (a + m) x), R]) rfl) ?_
    rintro _ _ rfl
    refine Gx.done ?_
    refine Gx.thenN ?_
    refine Gx.region ?_
    refine Gx.val rfl rfl rfl (val_move rfl rfl) ?_
    refine Gx.val rfl rfl rfl (val_move rfl rfl) ?_
    refine Gx.val rfl rfl rfl (val_move rfl rfl) ?_
    refine Gx.val rfl rfl rfl (val_move rfl rfl) ?_
    refine Gx.val rfl rfl rfl (val_move rfl rfl) ?_
    refine Gx.eff rfl rfl rfl (eff_call (vs := [v, .int .i64 0, .int .i64 ((m : Nat) : Int), .int .i64 ((a : Nat) : Int), .func (.func 26) #[] #[]]) rfl Try.fn60 rfl (fun w H => sift_any (lo := 0) (hi := m) (f := a) (by omega) (by rw [List.length_set, List.length_set]; omega) (by rw [List.length_set, List.length_set]; omega) (HSh.heap.swapped hx hy) (H.at_ (k := 0) rfl))) ?_
    rintro _ l8 ⟨ys7, hsy, hhy, rfl, hl8⟩
    refine Gx.sepEq (l' := [Hp.own FK 3 v ys7, R]) hl8 ?_
    refine Gx.done ?_
    refine Gx.blkN ?_
    refine Gx.thenN ?_
    refine Gx.region ?_
    refine Gx.val rfl rfl rfl (val_move rfl rfl) ?_
    refine Gx.val rfl rfl rfl (val_sub rfl rfl rfl (r := (((m : Nat) : Int) - 1)) (w64 rfl (by omega))) ?_
    refine Gx.val rfl rfl rfl (val_assign rfl rfl) ?_
    refine Gx.done ?_
    refine Gx.thenN ?_
    exact Gx.round (m, ys7) ⟨by first | omega | (dsimp only; omega), (Sh.swap hsh2 (by omega) (by omega) (by omega) (by omega) hx hy).trans (hsy.mono (by omega) (by omega)), HSh.next hx hy (by omega) hsy hhy⟩ (by first | omega | (dsimp only; omega)) ((.cons rfl (.cons rfl (.cons rfl (.cons rfl (.cons rfl (.cons rfl (.cons rfl (.cons rfl .nil))))))))) rfl
  refine Gx.exit ?_
  refine Gx.thenE ?_
  refine Gx.thenE ?_
  refine Gx.blkE ?_
  refine Gx.endN ?_
  obtain rfl : m = 0 := by omega
  refine Gx.ret0 Try.results51 ?_
  exact ⟨_, hsh2, HSh.srt, rfl, sep1 _ _⟩

end Go.Proofs.Ytfpkfbffpkjgbaa
