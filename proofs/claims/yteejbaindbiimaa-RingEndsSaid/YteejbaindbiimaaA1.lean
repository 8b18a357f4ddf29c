/- A copy, and what comes once. The walks. No condition. -/
import Derived.Test.YteejbaindbiimaaD1
namespace Go.Proofs.Yteejbaindbiimaa
open Go.RowKit
set_option linter.unusedVariables false
set_option linter.unusedSimpArgs false
set_option maxRecDepth 100000

theorem clone_any {W w : World} {va : Value} {xs : List Int} {R : Hp} (hs : SlS SZ 1 W va xs) (h0 : 0 < xs.length) (h6 : xs.length ≤ 6) (H : Sat W w R) :
    Calls Try.prog 12 #[va] w (Ret W fun v l9 => ∃ cv, IsS cv ∧ cv = v ∧ sep l9 = Hp.own SZ 1 cv xs * R) := by
  refine Gx.enter (l := [R]) Try.func12 rfl Try.ntmps12 rfl ((H.cast (Hp.mul_one _).symm)) ?_
  refine Gx.know (m' := [(0, va)]) (.cons rfl .nil) ?_
  refine Gx.seq ?_
  refine Gx.region ?_
  refine Gx.val rfl rfl rfl (val_assign rfl rfl) ?_
  refine Gx.done ?_
  refine Gx.thenN ?_
  refine Gx.seq ?_
  refine Gx.seq ?_
  refine Gx.region ?_
  refine Gx.val rfl rfl rfl (val_move rfl rfl) ?_
  refine Gx.val rfl rfl rfl (val_eqlSl rfl Try.underlying22 rfl rfl hs h0) ?_
  refine Gx.done ?_
  refine Gx.thenN ?_
  refine Gx.f rfl ?_
  refine Gx.skip ?_
  refine Gx.thenN ?_
  refine Gx.seq ?_
  refine Gx.region ?_
  refine Gx.eff rfl rfl rfl (eff_buildNil (f := SZ) (sz := 1) (e := 3) rfl Try.underlying22 (fun w => by first | (go_simp; done) | (go_simp; rfl))) ?_
  rintro v1 _ ⟨hiv1, rfl⟩
  refine Gx.val rfl rfl rfl (val_move rfl rfl) ?_
  refine Gx.eff rfl rfl rfl (eff_pushAll (k := 0) (ys := xs) rfl Try.eI SZ_len SZ_one rfl rfl (fun w H => hs.below H.below) rfl (by simp; omega) (by simp; omega)) ?_
  rintro v2 _ ⟨hiv2, rfl⟩
  refine Gx.norm (l' := [Hp.own SZ 1 v2 xs, R]) rfl ?_
  refine Gx.val rfl rfl rfl (val_assign rfl rfl) ?_
  refine Gx.done ?_
  refine Gx.thenN ?_
  refine Gx.ret ?_
  refine Gx.ret1 Try.results12 rfl ?_
  exact ⟨_, hiv2, rfl, sep1 _ _⟩

theorem compact_yes {W w : World} {cv : Value} {xs : List Int} {R : Hp} (h6 : xs.length ≤ 6) (hi : IsS cv) (hn : ∀ j, j + 1 < xs.length → xs[j]? ≠ xs[j + 1]?) (H : Sat W w (Hp.own SZ 1 cv xs * R)) :
    Calls Try.prog 14 #[cv] w (Ret W fun v l => cv = v ∧ sep l = Hp.own SZ 1 cv xs * R) := by
  refine Gx.enter (l := [Hp.own SZ 1 cv xs, R]) Try.func14 rfl Try.ntmps14 rfl ((H.cast (congrArg _ (Hp.mul_one _).symm))) ?_
  refine Gx.know (m' := [(0, cv)]) (.cons rfl .nil) ?_
  refine Gx.seq ?_
  refine Gx.region ?_
  refine Gx.val rfl rfl rfl (val_assign rfl rfl) ?_
  refine Gx.done ?_
  refine Gx.thenN ?_
  refine Gx.seq ?_
  refine Gx.seq ?_
  refine Gx.region ?_
  refine Gx.val rfl rfl rfl (val_move rfl rfl) ?_
  refine Gx.val rfl rfl rfl (val_len rfl Try.underlying22 rfl (len_own (k := 0) rfl)) ?_
  refine Gx.val rfl rfl rfl (val_lss rfl rfl rfl) ?_
  refine Gx.done ?_
  refine Gx.thenN ?_
  refine Gx.dec rfl (fun h1 => ?_) (fun h1 => ?_)
  · refine Gx.seq ?_
    refine Gx.region ?_
    refine Gx.val rfl rfl rfl (val_move rfl rfl) ?_
    refine Gx.val rfl rfl rfl (val_assign rfl rfl) ?_
    refine Gx.done ?_
    refine Gx.thenN ?_
    refine Gx.ret ?_
    refine Gx.thenR ?_
    refine Gx.ret1 Try.results14 rfl ?_
    exact ⟨rfl, sep1 _ _⟩
  · refine Gx.skip ?_
    refine Gx.thenN ?_
    refine Gx.seq ?_
    refine Gx.seq ?_
    refine Gx.region ?_
    refine Gx.val rfl rfl rfl (val_assign rfl rfl) ?_
    refine Gx.done ?_
    refine Gx.thenN ?_
    refine Gx.block ?_
    refine Gx.loop (ι := Nat) (fun ξ => (ξ + 1 ≤ xs.length)) (fun ξ => [(0, cv), (3, .int .i64 ((ξ + 1 : Nat) : Int))]) (fun ξ => [Hp.own SZ 1 cv xs, R]) (fun ξ => xs.length - ξ) 0 (by first | omega | (dsimp only; omega)) ((.cons rfl (.cons rfl .nil))) rfl ?_
    rintro kk hk
    refine Gx.know (m' := [(0, cv), (3, .int .i64 ((kk + 1 : Nat) : Int))]) (.cons rfl (.cons rfl .nil)) (Gx.norm (l' := [Hp.own SZ 1 cv xs, R]) rfl ?_)
    refine Gx.seq ?_
    refine Gx.seq ?_
    refine Gx.region ?_
    refine Gx.val rfl rfl rfl (val_move rfl rfl) ?_
    refine Gx.val rfl rfl rfl (val_move rfl rfl) ?_
    refine Gx.val rfl rfl rfl (val_len rfl Try.underlying22 rfl (len_own (k := 0) rfl)) ?_
    refine Gx.val rfl rfl rfl (val_lss rfl rfl rfl) ?_
    refine Gx.done ?_
    refine Gx.thenN ?_
    refine Gx.dec rfl (fun h2 => ?_) (fun h2 => ?_)
    · refine Gx.skip ?_
      refine Gx.thenN ?_
      refine Gx.seq ?_
      refine Gx.block ?_
      refine Gx.seq ?_
      refine Gx.regionQ Try.mixed (by kernel_rfl) ?_
      refine Gq.val rfl rfl rfl (val_move rfl rfl) ?_
      refine Gq.val rfl rfl rfl (val_move rfl rfl) ?_
      obtain ⟨x3, hx3⟩ := get_of_lt (xs := xs) (k := kk + 1) (by omega)
      refine Gq.val rfl rfl rfl (val_ixa rfl Try.underlying22 Try.ty3 rfl rfl (j := kk + 1) (rfl) (reach_own (k := 0) rfl hx3)) ?_
      refine Gq.val rfl rfl rfl (val_load rfl Try.ty3 rfl rfl (cell_own (i := 0) (sz := 1) (j := kk + 1) (k := 0) rfl hx3 rfl)) ?_
      refine Gq.val rfl rfl rfl (val_move rfl rfl) ?_
      refine Gq.val rfl rfl rfl (val_move rfl rfl) ?_
      refine Gq.val rfl rfl rfl (val_sub rfl rfl rfl (r := ((kk : Nat) : Int)) (w64 (by omega) (by omega))) ?_
      obtain ⟨x4, hx4⟩ := get_of_lt (xs := xs) (k := kk) (by omega)
      refine Gq.val rfl rfl rfl (val_ixa rfl Try.underlying22 Try.ty3 rfl rfl (j := kk) (rfl) (reach_own (k := 0) rfl hx4)) ?_
      refine Gq.val rfl rfl rfl (val_load rfl Try.ty3 rfl rfl (cell_own (i := 0) (k := 0) rfl hx4 rfl)) ?_
      refine Gq.val rfl rfl rfl (val_eql rfl rfl rfl) ?_
      refine Gq.done ?_
      refine Gx.thenN ?_
      refine Gx.decF rfl (fun e => hn kk (by omega) (hx4.trans ((congrArg some e.symm).trans hx3.symm))) ?_
      refine Gx.skip ?_
      refine Gx.blkN ?_
      refine Gx.thenN ?_
      refine Gx.region ?_
      refine Gx.val rfl rfl rfl (val_move rfl rfl) ?_
      refine Gx.val rfl rfl rfl (val_add rfl rfl rfl (r := ((kk + 2 : Nat) : Int)) (w64 (by omega) (by omega))) ?_
      refine Gx.val rfl rfl rfl (val_assign rfl rfl) ?_
      refine Gx.done ?_
      refine Gx.thenN ?_
      exact Gx.round (kk + 1) (by first | omega | (dsimp only; omega)) (by first | omega | (dsimp only; omega)) ((.cons rfl (.cons rfl .nil))) rfl
    · refine Gx.exit ?_
      refine Gx.thenE ?_
      refine Gx.thenE ?_
      refine Gx.blkE ?_
      refine Gx.thenN ?_
      refine Gx.seq ?_
      refine Gx.region ?_
      refine Gx.val rfl rfl rfl (val_move rfl rfl) ?_
      refine Gx.val rfl rfl rfl (val_assign rfl rfl) ?_
      refine Gx.done ?_
      refine Gx.thenN ?_
      refine Gx.ret ?_
      refine Gx.ret1 Try.results14 rfl ?_
      exact ⟨rfl, sep1 _ _⟩

theorem compact_no {W w : World} {cv : Value} {xs : List Int} {j0 : Nat} {R : Hp} (h6 : xs.length ≤ 6) (hi : IsS cv) (hj : j0 + 1 < xs.length) (hd : xs[j0]? = xs[j0 + 1]?) (H : Sat W w (Hp.own SZ 1 cv xs * R)) :
    Calls Try.prog 14 #[cv] w (Ret W fun v l => ∃ (k : Nat) (ys : List Int), k < xs.length ∧ v = sCut 1 0 k cv ∧ sep l = Hp.own SZ 1 cv ys * R) := by
  refine Gx.enter (l := [Hp.own SZ 1 cv xs, R]) Try.func14 rfl Try.ntmps14 rfl ((H.cast (congrArg _ (Hp.mul_one _).symm))) ?_
  refine Gx.know (m' := [(0, cv)]) (.cons rfl .nil) ?_
  refine Gx.seq ?_
  refine Gx.region ?_
  refine Gx.val rfl rfl rfl (val_assign rfl rfl) ?_
  refine Gx.done ?_
  refine Gx.thenN ?_
  refine Gx.seq ?_
  refine Gx.seq ?_
  refine Gx.region ?_
  refine Gx.val rfl rfl rfl (val_move rfl rfl) ?_
  refine Gx.val rfl rfl rfl (val_len rfl Try.underlying22 rfl (len_own (k := 0) rfl)) ?_
  refine Gx.val rfl rfl rfl (val_lss rfl rfl rfl) ?_
  refine Gx.done ?_
  refine Gx.thenN ?_
  refine Gx.dec rfl (fun h1 => ?_) (fun h1 => ?_)
  · refine Gx.seq ?_
    refine Gx.region ?_
    refine Gx.val rfl rfl rfl (val_move rfl rfl) ?_
    refine Gx.val rfl rfl rfl (val_assign rfl rfl) ?_
    refine Gx.done ?_
    refine Gx.thenN ?_
    refine Gx.ret ?_
    refine Gx.thenR ?_
    refine Gx.ret1 Try.results14 rfl ?_
    exfalso; omega
  · refine Gx.skip ?_
    refine Gx.thenN ?_
    refine Gx.seq ?_
    refine Gx.seq ?_
    refine Gx.region ?_
    refine Gx.val rfl rfl rfl (val_assign rfl rfl) ?_
    refine Gx.done ?_
    refine Gx.thenN ?_
    refine Gx.block ?_
    refine Gx.loop (ι := Nat) (fun ξ => (ξ ≤ j0)) (fun ξ => [(0, cv), (3, .int .i64 ((ξ + 1 : Nat) : Int))]) (fun ξ => [Hp.own SZ 1 cv xs, R]) (fun ξ => xs.length - ξ) 0 (by first | omega | (dsimp only; omega)) ((.cons rfl (.cons rfl .nil))) rfl ?_
    rintro kk hk
    refine Gx.know (m' := [(0, cv), (3, .int .i64 ((kk + 1 : Nat) : Int))]) (.cons rfl (.cons rfl .nil)) (Gx.norm (l' := [Hp.own SZ 1 cv xs, R]) rfl ?_)
    refine Gx.seq ?_
    refine Gx.seq ?_
    refine Gx.region ?_
    refine Gx.val rfl rfl rfl (val_move rfl rfl) ?_
    refine Gx.val rfl rfl rfl (val_move rfl rfl) ?_
    refine Gx.val rfl rfl rfl (val_len rfl Try.underlying22 rfl (len_own (k := 0) rfl)) ?_
    refine Gx.val rfl rfl rfl (val_lss rfl rfl rfl) ?_
    refine Gx.done ?_
    refine Gx.thenN ?_
    refine Gx.dec rfl (fun h2 => ?_) (fun h2 => ?_)
    · refine Gx.skip ?_
      refine Gx.thenN ?_
      refine Gx.seq ?_
      refine Gx.block ?_
      refine Gx.seq ?_
      refine Gx.regionQ Try.mixed (by kernel_rfl) ?_
      refine Gq.val rfl rfl rfl (val_move rfl rfl) ?_
      refine Gq.val rfl rfl rfl (val_move rfl rfl) ?_
      obtain ⟨x3, hx3⟩ := get_of_lt (xs := xs) (k := kk + 1) (by omega)
      refine Gq.val rfl rfl rfl (val_ixa rfl Try.underlying22 Try.ty3 rfl rfl (j := kk + 1) (rfl) (reach_own (k := 0) rfl hx3)) ?_
      refine Gq.val rfl rfl rfl (val_load rfl Try.ty3 rfl rfl (cell_own (i := 0) (sz := 1) (j := kk + 1) (k := 0) rfl hx3 rfl)) ?_
      refine Gq.val rfl rfl rfl (val_move rfl rfl) ?_
      refine Gq.val rfl rfl rfl (val_move rfl rfl) ?_
      refine Gq.val rfl rfl rfl (val_sub rfl rfl rfl (r := ((kk : Nat) : Int)) (w64 (by omega) (by omega))) ?_
      obtain ⟨x4, hx4⟩ := get_of_lt (xs := xs) (k := kk) (by omega)
      refine Gq.val rfl rfl rfl (val_ixa rfl Try.underlying22 Try.ty3 rfl rfl (j := kk) (rfl) (reach_own (k := 0) rfl hx4)) ?_
      refine Gq.val rfl rfl rfl (val_load rfl Try.ty3 rfl rfl (cell_own (i := 0) (k := 0) rfl hx4 rfl)) ?_
      refine Gq.val rfl rfl rfl (val_eql rfl rfl rfl) ?_
      refine Gq.done ?_
      refine Gx.thenN ?_
      refine Gx.dec rfl (fun h5 => ?_) (fun h5 => ?_)
      · refine Gx.seq ?_
        refine Gx.region ?_
        refine Gx.val rfl rfl rfl (val_move rfl rfl) ?_
        refine Gx.val rfl rfl rfl (val_move rfl rfl) ?_
        refine Gx.val rfl rfl rfl (val_cutFromO (lo := kk + 1) rfl Try.underlying22 Try.ty3 rfl (n := 0) rfl rfl (rfl) (by omega)) ?_
        refine Gx.val rfl rfl rfl (val_assign rfl rfl) ?_
        refine Gx.done ?_
        refine Gx.thenN ?_
        refine Gx.seq ?_
        refine Gx.seq ?_
        refine Gx.region ?_
        refine Gx.val rfl rfl rfl (val_assign rfl rfl) ?_
        refine Gx.done ?_
        refine Gx.thenN ?_
        refine Gx.block ?_
        refine Gx.loop (ι := Nat × Nat × (List Int)) (fun ξ => (ξ.2.2.length = xs.length) ∧ (kk + 2 + ξ.1 ≤ xs.length) ∧ (ξ.2.1 ≤ kk + 1 + ξ.1)) (fun ξ => [(0, cv), (3, .int .i64 ((ξ.2.1 : Nat) : Int)), (4, sCut 1 (kk + 1) xs.length cv), (5, .int .i64 ((ξ.1 + 1 : Nat) : Int))]) (fun ξ => [Hp.own SZ 1 cv ξ.2.2, R]) (fun ξ => xs.length - ξ.1) (0, kk + 1, xs) ⟨rfl, by first | omega | (dsimp only; omega), by first | omega | (dsimp only; omega)⟩ ((.cons rfl (.cons rfl (.cons rfl (.cons rfl .nil))))) rfl ?_
        rintro ⟨q, k3, ys⟩ ⟨hyl, hq, hk3⟩
        dsimp only at hyl hq hk3
        refine Gx.know (m' := [(0, cv), (3, .int .i64 ((k3 : Nat) : Int)), (4, sCut 1 (kk + 1) xs.length cv), (5, .int .i64 ((q + 1 : Nat) : Int))]) (.cons rfl (.cons rfl (.cons rfl (.cons rfl .nil)))) (Gx.norm (l' := [Hp.own SZ 1 cv ys, R]) rfl ?_)
        refine Gx.seq ?_
        refine Gx.seq ?_
        refine Gx.region ?_
        refine Gx.val rfl rfl rfl (val_move rfl rfl) ?_
        refine Gx.val rfl rfl rfl (val_move rfl rfl) ?_
        refine Gx.val rfl rfl rfl (val_len rfl Try.underlying22 rfl (len_cutO (f := SZ) (sz := 1) (v := cv) (lo := kk + 1) (up := xs.length) (k := 0) rfl)) ?_
        refine Gx.val rfl rfl rfl (val_lss rfl rfl rfl) ?_
        refine Gx.done ?_
        refine Gx.thenN ?_
        refine Gx.dec rfl (fun h6 => ?_) (fun h6 => ?_)
        · refine Gx.skip ?_
          refine Gx.thenN ?_
          refine Gx.seq ?_
          refine Gx.block ?_
          refine Gx.seq ?_
          refine Gx.regionQ Try.mixed (by kernel_rfl) ?_
          refine Gq.val rfl rfl rfl (val_move rfl rfl) ?_
          refine Gq.val rfl rfl rfl (val_move rfl rfl) ?_
          obtain ⟨x7, hx7⟩ := get_of_lt (xs := ys) (k := (kk + 1) + (q + 1)) (by omega)
          refine Gq.val rfl rfl rfl (val_ixaC (f := SZ) (lo := kk + 1) (up := xs.length) (j := q + 1) rfl Try.underlying22 Try.ty3 rfl (n := 0) rfl rfl (rfl) hx7 (by omega) (by omega)) ?_
          refine Gq.val rfl rfl rfl (val_load rfl Try.ty3 rfl rfl (cell_own (i := 0) (sz := 1) (j := ((kk + 1) + (q + 1))) (k := 0) rfl hx7 rfl)) ?_
          refine Gq.val rfl rfl rfl (val_move rfl rfl) ?_
          refine Gq.val rfl rfl rfl (val_move rfl rfl) ?_
          refine Gq.val rfl rfl rfl (val_sub rfl rfl rfl (r := ((q : Nat) : Int)) (w64 (by omega) (by omega))) ?_
          obtain ⟨x8, hx8⟩ := get_of_lt (xs := ys) (k := (kk + 1) + q) (by omega)
          refine Gq.val rfl rfl rfl (val_ixaC (f := SZ) (lo := kk + 1) (up := xs.length) (j := q) rfl Try.underlying22 Try.ty3 rfl (n := 0) rfl rfl (rfl) hx8 (by omega) (by omega)) ?_
          refine Gq.val rfl rfl rfl (val_load rfl Try.ty3 rfl rfl (cell_own (i := 0) (sz := 1) (j := ((kk + 1) + q)) (k := 0) rfl hx8 rfl)) ?_
          refine Gq.val rfl rfl rfl (val_neq rfl rfl rfl) ?_
          refine Gq.done ?_
          refine Gx.thenN ?_
          refine Gx.dec rfl (fun h9 => ?_) (fun h9 => ?_)
          · refine Gx.seq ?_
            refine Gx.region ?_
            refine Gx.val rfl rfl rfl (val_move rfl rfl) ?_
            refine Gx.val rfl rfl rfl (val_move rfl rfl) ?_
            refine Gx.val rfl rfl rfl (val_move rfl rfl) ?_
            refine Gx.val rfl rfl rfl (val_move rfl rfl) ?_
            refine Gx.val rfl rfl rfl (val_ixaC (f := SZ) (lo := kk + 1) (up := xs.length) (j := q + 1) rfl Try.underlying22 Try.ty3 rfl (n := 0) rfl rfl (rfl) hx7 (by omega) (by omega)) ?_
            refine Gx.val rfl rfl rfl (val_load rfl Try.ty3 rfl rfl (cell_own (i := 0) (sz := 1) (j := ((kk + 1) + (q + 1))) (k := 0) rfl hx7 rfl)) ?_
            obtain ⟨x10, hx10⟩ := get_of_lt (xs := ys) (k := k3) (by omega)
            refine Gx.val rfl rfl rfl (val_ixa rfl Try.underlying22 Try.ty3 rfl rfl (j := k3) (rfl) (reach_own (k := 0) rfl hx10)) ?_
            refine Gx.eff0 rfl rfl (eff_storeElA x7 rfl Try.ty3 rfl rfl rfl SZ_one (k := 0) rfl SZ_len hx10 (l' := [Hp.own SZ 1 cv (ys.set k3 x7), R]) rfl) ?_
            rintro _ _ rfl
            refine Gx.done ?_
            refine Gx.thenN ?_
            refine Gx.region ?_
            refine Gx.val rfl rfl rfl (val_move rfl rfl) ?_
            refine Gx.val rfl rfl rfl (val_add rfl rfl rfl (r := ((k3 + 1 : Nat) : Int)) (w64 (by omega) (by omega))) ?_
            refine Gx.val rfl rfl rfl (val_assign rfl rfl) ?_
            refine Gx.done ?_
            refine Gx.blkN ?_
            refine Gx.thenN ?_
            refine Gx.region ?_
            refine Gx.val rfl rfl rfl (val_move rfl rfl) ?_
            refine Gx.val rfl rfl rfl (val_add rfl rfl rfl (r := ((q + 2 : Nat) : Int)) (w64 (by omega) (by omega))) ?_
            refine Gx.val rfl rfl rfl (val_assign rfl rfl) ?_
            refine Gx.done ?_
            refine Gx.thenN ?_
            exact Gx.round (q + 1, k3 + 1, ys.set k3 x7) ⟨by simp only [List.length_set]; exact hyl, by first | omega | (dsimp only; omega), by first | omega | (dsimp only; omega)⟩ (by first | omega | (dsimp only; omega)) ((.cons rfl (.cons rfl (.cons rfl (.cons rfl .nil))))) rfl
          · refine Gx.skip ?_
            refine Gx.blkN ?_
            refine Gx.thenN ?_
            refine Gx.region ?_
            refine Gx.val rfl rfl rfl (val_move rfl rfl) ?_
            refine Gx.val rfl rfl rfl (val_add rfl rfl rfl (r := ((q + 2 : Nat) : Int)) (w64 (by omega) (by omega))) ?_
            refine Gx.val rfl rfl rfl (val_assign rfl rfl) ?_
            refine Gx.done ?_
            refine Gx.thenN ?_
            exact Gx.round (q + 1, k3, ys) ⟨hyl, by first | omega | (dsimp only; omega), by first | omega | (dsimp only; omega)⟩ (by first | omega | (dsimp only; omega)) ((.cons rfl (.cons rfl (.cons rfl (.cons rfl .nil))))) rfl
        · refine Gx.exit ?_
          refine Gx.thenE ?_
          refine Gx.thenE ?_
          refine Gx.blkE ?_
          refine Gx.thenN ?_
          refine Gx.seq ?_
          refine Gx.region ?_
          refine Gx.val rfl rfl rfl (val_move rfl rfl) ?_
          refine Gx.val rfl rfl rfl (val_move rfl rfl) ?_
          refine Gx.val rfl rfl rfl (val_cutFromO (lo := k3) rfl Try.underlying22 Try.ty3 rfl (n := 0) rfl rfl (rfl) (by omega)) ?_
          refine Gx.eff0 rfl rfl (eff_clear (f := SZ) (v := cv) (lo := k3) (up := ys.length) rfl Try.underlying22 Try.ty3 rfl (k := 0) rfl SZ_len SZ_one 0 rfl (by omega) (by omega) (l' := [Hp.own SZ 1 cv (clr ys 0 k3 (ys.length - k3)), R]) rfl) ?_
          rintro _ _ rfl
          refine Gx.done ?_
          refine Gx.thenN ?_
          refine Gx.seq ?_
          refine Gx.region ?_
          refine Gx.val rfl rfl rfl (val_move rfl rfl) ?_
          refine Gx.val rfl rfl rfl (val_move rfl rfl) ?_
          refine Gx.val rfl rfl rfl (val_cutToO (up := k3) rfl Try.underlying22 Try.ty3 rfl (n := 0) rfl rfl (rfl) (by rw [clr_len]; omega)) ?_
          refine Gx.val rfl rfl rfl (val_assign rfl rfl) ?_
          refine Gx.done ?_
          refine Gx.thenN ?_
          refine Gx.ret ?_
          refine Gx.blkR ?_
          refine Gx.thenR ?_
          refine Gx.thenR ?_
          refine Gx.blkR ?_
          refine Gx.thenR ?_
          refine Gx.ret1 Try.results14 rfl ?_
          exact ⟨k3, _, by omega, rfl, sep1 _ _⟩
      · refine Gx.skip ?_
        refine Gx.blkN ?_
        refine Gx.thenN ?_
        refine Gx.region ?_
        refine Gx.val rfl rfl rfl (val_move rfl rfl) ?_
        refine Gx.val rfl rfl rfl (val_add rfl rfl rfl (r := ((kk + 2 : Nat) : Int)) (w64 (by omega) (by omega))) ?_
        refine Gx.val rfl rfl rfl (val_assign rfl rfl) ?_
        refine Gx.done ?_
        refine Gx.thenN ?_
        exact Gx.round (kk + 1) (by rcases Nat.lt_or_eq_of_le hk with h | h; (first | omega | (dsimp only; omega)); exfalso; subst h; have q9 := hd; rw [hx4, hx3] at q9; cases q9; simp_all) (by first | omega | (dsimp only; omega)) ((.cons rfl (.cons rfl .nil))) rfl
    · refine Gx.exit ?_
      refine Gx.thenE ?_
      refine Gx.thenE ?_
      refine Gx.blkE ?_
      refine Gx.thenN ?_
      refine Gx.seq ?_
      refine Gx.region ?_
      refine Gx.val rfl rfl rfl (val_move rfl rfl) ?_
      refine Gx.val rfl rfl rfl (val_assign rfl rfl) ?_
      refine Gx.done ?_
      refine Gx.thenN ?_
      refine Gx.ret ?_
      refine Gx.ret1 Try.results14 rfl ?_
      exfalso; omega

theorem sort_c {W w : World} {cv : Value} {xs : List Int} {R : Hp} (h0 : 0 < xs.length) (hl : xs.length ≤ 12) (H : Sat W w (Hp.own SZ 1 cv xs * R)) :
    Calls Try.prog 13 #[cv] w (Ret W fun v l => ∃ (u : Value) (ys : List Int), ys.Perm xs ∧ ys.Pairwise (· ≤ ·) ∧ u = v ∧ sep l = Hp.own SZ 1 cv ys * R) := by
  rcases H.ows with ⟨rfl, rfl⟩ | ⟨g, off, cap, rfl, _⟩
  · simp at h0
  · refine (sort_any H rfl hl).mono ?_
    rintro e w' ⟨⟨u, rfl⟩, ys, h1, h2, H'⟩
    exact ⟨u, [Hp.own SZ 1 (.slice (some ⟨g, off, none⟩) xs.length cap) ys, R], rfl, ⟨u, ys, h1, h2, rfl, by show _ * (_ * 1) = _; rw [Hp.mul_one]⟩, H'.cast (by show _ = _ * (_ * 1); rw [Hp.mul_one])⟩
/-- two alike stand side by side once sorted -/
theorem dup_next : ∀ {xs : List Int}, xs.Pairwise (· ≤ ·) → ¬ xs.Nodup → ∃ j, j + 1 < xs.length ∧ xs[j]? = xs[j + 1]?
  | [], _, h => absurd List.nodup_nil h
  | [x], _, h => absurd (by simp) h
  | x :: y :: l, hs, h => by
    obtain ⟨h1, h2⟩ := List.pairwise_cons.1 hs
    by_cases e : x = y
    · exact ⟨0, by simp, by simp [e]⟩
    · have hn : ¬ (y :: l).Nodup := fun hn => h (by
        rw [List.nodup_cons]
        refine ⟨fun hm => ?_, hn⟩
        rcases List.mem_cons.1 hm with e2 | hm
        · exact e e2
        · have q1 := h1 y (by simp)
          have q2 := (List.pairwise_cons.1 h2).1 x hm
          omega)
      obtain ⟨j, hj, hd⟩ := dup_next h2 hn
      exact ⟨j + 1, by simp only [List.length_cons] at hj ⊢; omega, by simpa using hd⟩
theorem nodup_next {xs : List Int} (h : xs.Nodup) : ∀ j, j + 1 < xs.length → xs[j]? ≠ xs[j + 1]? := fun j hj e => by
  have := List.pairwise_iff_getElem.1 h j (j + 1) (by omega) hj (by omega)
  rw [List.getElem?_eq_getElem (by omega), List.getElem?_eq_getElem hj] at e
  exact this (Option.some.inj e)
end Go.Proofs.Yteejbaindbiimaa
