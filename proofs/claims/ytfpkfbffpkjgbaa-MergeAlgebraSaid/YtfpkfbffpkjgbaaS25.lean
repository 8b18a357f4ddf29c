/- A heap's place sifted down. The walk. No condition. -/
import Derived.Test.YtfpkfbffpkjgbaaS24
namespace Go.Proofs.Ytfpkfbffpkjgbaa
open Go.RowKit
set_option linter.unusedVariables false
set_option linter.unusedSimpArgs false
set_option maxRecDepth 100000

theorem sift_any {W w : World} {v : Value} {xs : List Dk} {R : Hp} {lo hi f : Nat} (hlo : lo ≤ 65000) (hb : f + hi ≤ xs.length) (hl : xs.length ≤ 65000) (hh : Heap xs f (lo + 1) hi) (H : Sat W w (Hp.own FK 3 v xs * R)) :
    Calls Try.prog 60 #[v, .int .i64 ((lo : Nat) : Int), .int .i64 ((hi : Nat) : Int), .int .i64 ((f : Nat) : Int), .func (.func 26) #[] #[]] w (Ret W fun u l => ∃ ys, Sh (f + lo) (f + hi) xs ys ∧ Heap ys f lo hi ∧ u = .tuple #[] ∧ sep l = Hp.own FK 3 v ys * R) := by
  refine Gx.enter (l := [Hp.own FK 3 v xs, R]) Try.func60 rfl Try.ntmps60 rfl (H.frame1) ?_
  refine Gx.know (m' := [(0, v), (1, .int .i64 ((lo : Nat) : Int)), (2, .int .i64 ((hi : Nat) : Int)), (3, .int .i64 ((f : Nat) : Int)), (4, .func (.func 26) #[] #[])]) (.cons rfl (.cons rfl (.cons rfl (.cons rfl (.cons rfl .nil))))) ?_
  refine Gx.seq ?_
  refine Gx.region ?_
  refine Gx.val rfl rfl rfl (val_move rfl rfl) ?_
  refine Gx.val rfl rfl rfl (val_assign rfl rfl) ?_
  refine Gx.done ?_
  refine Gx.thenN ?_
  refine Gx.block ?_
  refine Gx.loop (ι := Nat × (List Dk)) (fun ξ => (lo ≤ ξ.1) ∧ (ξ.1 < hi ∨ ξ.1 = lo) ∧ (Sh (f + lo) (f + hi) xs ξ.2) ∧ (HeapX ξ.2 f lo hi ξ.1)) (fun ξ => [(0, v), (1, .int .i64 ((lo : Nat) : Int)), (2, .int .i64 ((hi : Nat) : Int)), (3, .int .i64 ((f : Nat) : Int)), (4, .func (.func 26) #[] #[]), (10, .int .i64 ((ξ.1 : Nat) : Int))]) (fun ξ => [Hp.own FK 3 v ξ.2, R]) (fun ξ => hi - ξ.1) (lo, xs) ⟨by first | omega | (dsimp only; omega), by first | omega | (dsimp only; omega), Sh.refl _, HeapX.start hh⟩ ((.cons rfl (.cons rfl (.cons rfl (.cons rfl (.cons rfl (.cons rfl .nil))))))) rfl ?_
  rintro ⟨r, L⟩ ⟨hlr, hrb, hsh, hx0⟩
  dsimp only at hlr hrb hsh hx0
  refine Gx.know (m' := [(0, v), (1, .int .i64 ((lo : Nat) : Int)), (2, .int .i64 ((hi : Nat) : Int)), (3, .int .i64 ((f : Nat) : Int)), (4, .func (.func 26) #[] #[]), (10, .int .i64 ((r : Nat) : Int))]) (.cons rfl (.cons rfl (.cons rfl (.cons rfl (.cons rfl (.cons rfl .nil)))))) (Gx.norm (l' := [Hp.own FK 3 v L, R]) rfl ?_)
  refine Gx.block ?_
  refine Gx.seq ?_
  refine Gx.region ?_
  refine Gx.val rfl rfl rfl (val_move rfl rfl) ?_
  refine Gx.val rfl rfl rfl (val_mul rfl rfl rfl (r := ((2 * r : Nat) : Int)) (w64 (by omega) (by omega))) ?_
  refine Gx.val rfl rfl rfl (val_add rfl rfl rfl (r := ((2 * r + 1 : Nat) : Int)) (w64 (by omega) (by omega))) ?_
  refine Gx.val rfl rfl rfl (val_assign rfl rfl) ?_
  refine Gx.done ?_
  refine Gx.thenN ?_
  refine Gx.seq ?_
  refine Gx.seq ?_
  refine Gx.region ?_
  refine Gx.val rfl rfl rfl (val_move rfl rfl) ?_
  refine Gx.val rfl rfl rfl (val_move rfl rfl) ?_
  refine Gx.val rfl rfl rfl (val_geq rfl rfl rfl) ?_
  refine Gx.done ?_
  refine Gx.thenN ?_
  refine Gx.dec rfl (fun h1 => ?_) (fun h1 => ?_)
  · refine Gx.exit ?_
    refine Gx.thenE ?_
    refine Gx.blkO rfl ?_
    refine Gx.thenE ?_
    refine Gx.blkE ?_
    refine Gx.endN ?_
    refine Gx.ret0 Try.results60 ?_
    exact ⟨_, hsh, hx0.end_ (by omega), rfl, sep1 _ _⟩
  refine Gx.skip ?_
  refine Gx.thenN ?_
  refine Gx.seq ?_
  refine Gx.seq ?_
  have hL := hsh.len
  obtain ⟨x, hx⟩ := get_of_lt (xs := L) (k := f + r) (by omega)
  obtain ⟨y1, hy1⟩ := get_of_lt (xs := L) (k := f + (2 * r + 1)) (by omega)
  refine Gx.regionQ Try.mixed (by kernel_rfl) ?_
  refine Gq.val rfl rfl rfl (val_move rfl rfl) ?_
  refine Gq.val rfl rfl rfl (val_add rfl rfl rfl (r := ((2 * r + 2 : Nat) : Int)) (w64 (by omega) (by omega))) ?_
  refine Gq.val rfl rfl rfl (val_move rfl rfl) ?_
  refine Gq.val rfl rfl rfl (val_lss rfl rfl rfl) ?_
  refine Gq.val rfl rfl rfl (val_move rfl rfl) ?_
  refine Gq.cases (t := 23) rfl (fun h2 => ?_) (fun h2 => ?_)
  · obtain ⟨y2, hy2⟩ := get_of_lt (xs := L) (k := f + (2 * r + 1) + 1) (by omega)
    refine Gq.valg rfl rfl rfl rfl rfl (val_move rfl rfl) ?_
    refine Gq.valg rfl rfl rfl rfl rfl (val_move rfl rfl) ?_
    refine Gq.valg rfl rfl rfl rfl rfl (val_move rfl rfl) ?_
    refine Gq.valg rfl rfl rfl rfl rfl (val_move rfl rfl) ?_
    refine Gq.valg rfl rfl rfl rfl rfl (val_add rfl rfl rfl (r := ((f + (2 * r + 1) : Nat) : Int)) (w64 (by omega) (by omega))) ?_
    refine Gq.valg rfl rfl rfl rfl rfl (val_ixa rfl Try.underlying25 Try.ty59 rfl rfl (j := f + (2 * r + 1)) (rfl) (reach_own (k := 0) rfl hy1)) ?_
    refine Gq.valg rfl rfl rfl rfl rfl (Val.cast (val_loadA rfl Try.ty59 rfl rfl rfl (cells_own (sz := 3) (j := f + (2 * r + 1)) (k := 0) rfl hy1)) (v' := .agg #[.int .i64 y1.1.item, .int .i64 y1.1.who, .int .i64 y1.1.n]) rfl) ?_
    refine Gq.valg rfl rfl rfl rfl rfl (val_move rfl rfl) ?_
    refine Gq.valg rfl rfl rfl rfl rfl (val_move rfl rfl) ?_
    refine Gq.valg rfl rfl rfl rfl rfl (val_move rfl rfl) ?_
    refine Gq.valg rfl rfl rfl rfl rfl (val_add rfl rfl rfl (r := ((f + (2 * r + 1) : Nat) : Int)) (w64 (by omega) (by omega))) ?_
    refine Gq.valg rfl rfl rfl rfl rfl (val_add rfl rfl rfl (r := ((f + (2 * r + 1) + 1 : Nat) : Int)) (w64 (by omega) (by omega))) ?_
    refine Gq.valg rfl rfl rfl rfl rfl (val_ixa rfl Try.underlying25 Try.ty59 rfl rfl (j := f + (2 * r + 1) + 1) (rfl) (reach_own (k := 0) rfl hy2)) ?_
    refine Gq.valg rfl rfl rfl rfl rfl (Val.cast (val_loadA rfl Try.ty59 rfl rfl rfl (cells_own (sz := 3) (j := f + (2 * r + 1) + 1) (k := 0) rfl hy2)) (v' := .agg #[.int .i64 y2.1.item, .int .i64 y2.1.who, .int .i64 y2.1.n]) rfl) ?_
    refine Gq.valg rfl rfl rfl rfl rfl (val_callV (vs := [.agg #[.int .i64 y1.1.item, .int .i64 y1.1.who, .int .i64 y1.1.n], .agg #[.int .i64 y2.1.item, .int .i64 y2.1.who, .int .i64 y2.1.n]]) (fs := []) (cs := []) rfl Try.fn26 rfl rfl (fun w H => dots_any y1.1 y2.1)) ?_
    refine Gq.valg rfl rfl rfl rfl rfl (Val.cast (val_lss rfl rfl rfl) (v' := .bool (decide (kK y1 < kK y2))) (congrArg Value.bool (decide_eq_decide.2 kK_lt))) ?_
    refine Gq.val rfl rfl rfl (val_pickT rfl rfl rfl) ?_
    refine Gq.done ?_
    refine Gx.thenN ?_
    refine Gx.dec rfl (fun h3 => ?_) (fun h3 => ?_)
    · refine Gx.region ?_
      refine Gx.val rfl rfl rfl (val_move rfl rfl) ?_
      refine Gx.val rfl rfl rfl (val_add rfl rfl rfl (r := ((2 * r + 2 : Nat) : Int)) (w64 (by omega) (by omega))) ?_
      refine Gx.val rfl rfl rfl (val_assign rfl rfl) ?_
      refine Gx.done ?_
      refine Gx.thenN ?_
      refine Gx.seq ?_
      refine Gx.seq ?_
      have hyk : L[f + (2 * r + 2)]? = some y2 := hy2
      have hk : ∀ c y, (c = 2 * r + 1 ∨ c = 2 * r + 2) → c < hi → L[f + c]? = some y → kK y ≤ kK y2 := by
        intro c y hc hlt hy
        rcases hc with rfl | rfl
        · rw [hy1] at hy; cases hy; omega
        · have hy2' : L[f + (2 * r + 2)]? = some y2 := hy2
          rw [hy2'] at hy; cases hy; omega
      refine Gx.regionQ Try.mixed (by kernel_rfl) ?_
      refine Gq.val rfl rfl rfl (val_move rfl rfl) ?_
      refine Gq.val rfl rfl rfl (val_move rfl rfl) ?_
      refine Gq.val rfl rfl rfl (val_move rfl rfl) ?_
      refine Gq.val rfl rfl rfl (val_move rfl rfl) ?_
      refine Gq.val rfl rfl rfl (val_add rfl rfl rfl (r := ((f + r : Nat) : Int)) (w64 (by omega) (by omega))) ?_
      refine Gq.val rfl rfl rfl (val_ixa rfl Try.underlying25 Try.ty59 rfl rfl (j := f + r) (rfl) (reach_own (k := 0) rfl hx)) ?_
      refine Gq.val rfl rfl rfl (Val.cast (val_loadA rfl Try.ty59 rfl rfl rfl (cells_own (sz := 3) (j := f + r) (k := 0) rfl hx)) (v' := .agg #[.int .i64 x.1.item, .int .i64 x.1.who, .int .i64 x.1.n]) rfl) ?_
      refine Gq.val rfl rfl rfl (val_move rfl rfl) ?_
      refine Gq.val rfl rfl rfl (val_move rfl rfl) ?_
      refine Gq.val rfl rfl rfl (val_move rfl rfl) ?_
      refine Gq.val rfl rfl rfl (val_add rfl rfl rfl (r := ((f + (2 * r + 2) : Nat) : Int)) (w64 (by omega) (by omega))) ?_
      refine Gq.val rfl rfl rfl (val_ixa rfl Try.underlying25 Try.ty59 rfl rfl (j := f + (2 * r + 2)) (rfl) (reach_own (k := 0) rfl hyk)) ?_
      refine Gq.val rfl rfl rfl (Val.cast (val_loadA rfl Try.ty59 rfl rfl rfl (cells_own (sz := 3) (j := f + (2 * r + 2)) (k := 0) rfl hyk)) (v' := .agg #[.int .i64 y2.1.item, .int .i64 y2.1.who, .int .i64 y2.1.n]) rfl) ?_
      refine Gq.val rfl rfl rfl (val_callV (vs := [.agg #[.int .i64 x.1.item, .int .i64 x.1.who, .int .i64 x.1.n], .agg #[.int .i64 y2.1.item, .int .i64 y2.1.who, .int .i64 y2.1.n]]) (fs := []) (cs := []) rfl Try.fn26 rfl rfl (fun w H => dots_any x.1 y2.1)) ?_
      refine Gq.val rfl rfl rfl (Val.cast (val_lss rfl rfl rfl) (v' := .bool (decide (kK x < kK y2))) (congrArg Value.bool (decide_eq_decide.2 kK_lt))) ?_
      refine Gq.val rfl rfl rfl (val_notD rfl rfl) ?_
      refine Gq.done ?_
      refine Gx.thenN ?_
      refine Gx.dec rfl (fun h4 => ?_) (fun h4 => ?_)
      · refine Gx.ret ?_
        refine Gx.thenR ?_
        refine Gx.blkR ?_
        refine Gx.thenR ?_
        refine Gx.blkR ?_
        refine Gx.ret0 Try.results60 ?_
        exact ⟨_, hsh, hx0.done hx hk (by omega), rfl, sep1 _ _⟩
      refine Gx.skip ?_
      refine Gx.thenN ?_
      refine Gx.seq ?_
      refine Gx.regionO (fun j => j == 21) 23 [0, 1, 2, 3, 4, 5, 6, 7, 8, 9, 10, 11, 12, 13, 14, 15, 16, 17, 18, 19, 20, 21, 22] (fun us => match us with | [] => [Hp.own FK 3 v L, R] | u1 :: _ => [Hp.own FK 3 v (L.set (f + r) y2), R]) Try.mixed (by kernel_rfl) rfl ?_
      refine Gw.val rfl rfl rfl rfl rfl (fun us => val_move rfl rfl) ?_
      refine Gw.val rfl rfl rfl rfl rfl (fun us => val_move rfl rfl) ?_
      refine Gw.val rfl rfl rfl rfl rfl (fun us => val_move rfl rfl) ?_
      refine Gw.val rfl rfl rfl rfl rfl (fun us => val_add rfl rfl rfl (r := ((f + r : Nat) : Int)) (w64 (by omega) (by omega))) ?_
      refine Gw.val rfl rfl rfl rfl rfl (fun us => val_move rfl rfl) ?_
      refine Gw.val rfl rfl rfl rfl rfl (fun us => val_move rfl rfl) ?_
      refine Gw.val rfl rfl rfl rfl rfl (fun us => val_move rfl rfl) ?_
      refine Gw.val rfl rfl rfl rfl rfl (fun us => val_add rfl rfl rfl (r := ((f + (2 * r + 2) : Nat) : Int)) (w64 (by omega) (by omega))) ?_
      refine Gw.val rfl rfl rfl rfl rfl (fun us => val_move rfl rfl) ?_
      refine Gw.val rfl rfl rfl rfl rfl (fun us => val_move rfl rfl) ?_
      refine Gw.val rfl rfl rfl rfl rfl (fun us => val_move rfl rfl) ?_
      refine Gw.val rfl rfl rfl rfl rfl (fun us => val_add rfl rfl rfl (r := ((f + (2 * r + 2) : Nat) : Int)) (w64 (by omega) (by omega))) ?_
      refine Gw.val0 rfl rfl rfl (by kernel_rfl) rfl rfl (val_ixa rfl Try.underlying25 Try.ty59 rfl rfl (j := f + (2 * r + 2)) (rfl) (reach_own (k := 0) rfl hyk)) ?_
      refine Gw.val0 rfl rfl rfl (by kernel_rfl) rfl rfl (Val.cast (val_loadA rfl Try.ty59 rfl rfl rfl (cells_own (sz := 3) (j := f + (2 * r + 2)) (k := 0) rfl hyk)) (v' := .agg #[.int .i64 y2.1.item, .int .i64 y2.1.who, .int .i64 y2.1.n]) rfl) ?_
      refine Gw.val rfl rfl rfl rfl rfl (fun us => val_move rfl rfl) ?_
      refine Gw.val rfl rfl rfl rfl rfl (fun us => val_move rfl rfl) ?_
      refine Gw.val rfl rfl rfl rfl rfl (fun us => val_move rfl rfl) ?_
      refine Gw.val rfl rfl rfl rfl rfl (fun us => val_add rfl rfl rfl (r := ((f + r : Nat) : Int)) (w64 (by omega) (by omega))) ?_
      obtain ⟨x5, hx5⟩ := get_of_lt (xs := L.set (f + r) y2) (k := f + r) (by first | omega | (simp; omega))
      refine Gw.val rfl rfl rfl rfl rfl (fun us => match us with | [] => val_ixa rfl Try.underlying25 Try.ty59 rfl rfl (j := f + r) (rfl) (reach_own (k := 0) rfl hx) | u1 :: _ => val_ixa rfl Try.underlying25 Try.ty59 rfl rfl (j := f + r) (rfl) (reach_own (k := 0) rfl hx5)) ?_
      refine Gw.val0 rfl rfl rfl (by kernel_rfl) rfl rfl (Val.cast (val_loadA rfl Try.ty59 rfl rfl rfl (cells_own (sz := 3) (j := f + r) (k := 0) rfl hx)) (v' := .agg #[.int .i64 x.1.item, .int .i64 x.1.who, .int .i64 x.1.n]) rfl) ?_
      refine Gw.val0 rfl rfl rfl (by kernel_rfl) rfl rfl (val_ixa rfl Try.underlying25 Try.ty59 rfl rfl (j := f + r) (rfl) (reach_own (k := 0) rfl hx)) ?_
      refine Gw.chg0 rfl rfl rfl rfl (Eff.mono (eff_storeElA y2 rfl Try.ty59 rfl rfl rfl FK_one (k := 0) rfl FK_len hx (l' := [Hp.own FK 3 v (L.set (f + r) y2), R]) rfl) (fun _ _ h => congrArg sep h)) (fun _ => ?_)
      obtain ⟨x6, hx6⟩ := get_of_lt (xs := L.set (f + r) y2) (k := f + (2 * r + 2)) (by first | omega | (simp; omega))
      refine Gw.val0 rfl rfl rfl (by kernel_rfl) rfl rfl (val_ixa rfl Try.underlying25 Try.ty59 rfl rfl (j := f + (2 * r + 2)) (rfl) (reach_own (k := 0) rfl hx6)) ?_
      refine Gw.done ?_
      refine Gx.norm (l' := [Hp.own FK 3 v (L.set (f + r) y2), R]) rfl ?_
      refine Gx.eff0 rfl rfl (eff_storeElA x rfl Try.ty59 rfl rfl rfl FK_one (k := 0) rfl FK_len hx6 (l' := [Hp.own FK 3 v ((L.set (f + r) y2).set (f + (2 * r + 2)) x), R]) rfl) ?_
      rintro _ _ rfl
      refine Gx.done ?_
      refine Gx.thenN ?_
      refine Gx.region ?_
      refine Gx.val rfl rfl rfl (val_move rfl rfl) ?_
      refine Gx.val rfl rfl rfl (val_assign rfl rfl) ?_
      refine Gx.done ?_
      refine Gx.blkN ?_
      refine Gx.thenN ?_
      exact Gx.round (2 * r + 2, (L.set (f + r) y2).set (f + (2 * r + 2)) x) ⟨by first | omega | (dsimp only; omega), by first | omega | (dsimp only; omega), Sh.swap hsh (by omega) (by omega) (by omega) (by omega) hx hyk, hx0.down hlr (by omega) (by omega) hx hyk hk (by omega)⟩ (by first | omega | (dsimp only; omega)) ((.cons rfl (.cons rfl (.cons rfl (.cons rfl (.cons rfl (.cons rfl .nil))))))) rfl
    refine Gx.skip ?_
    refine Gx.thenN ?_
    refine Gx.seq ?_
    refine Gx.seq ?_
    have hyk : L[f + (2 * r + 1)]? = some y1 := hy1
    have hk : ∀ c y, (c = 2 * r + 1 ∨ c = 2 * r + 2) → c < hi → L[f + c]? = some y → kK y ≤ kK y1 := by
      intro c y hc hlt hy
      rcases hc with rfl | rfl
      · rw [hy1] at hy; cases hy; omega
      · have hy2' : L[f + (2 * r + 2)]? = some y2 := hy2
        rw [hy2'] at hy; cases hy; omega
    refine Gx.regionQ Try.mixed (by kernel_rfl) ?_
    refine Gq.val rfl rfl rfl (val_move rfl rfl) ?_
    refine Gq.val rfl rfl rfl (val_move rfl rfl) ?_
    refine Gq.val rfl rfl rfl (val_move rfl rfl) ?_
    refine Gq.val rfl rfl rfl (val_move rfl rfl) ?_
    refine Gq.val rfl rfl rfl (val_add rfl rfl rfl (r := ((f + r : Nat) : Int)) (w64 (by omega) (by omega))) ?_
    refine Gq.val rfl rfl rfl (val_ixa rfl Try.underlying25 Try.ty59 rfl rfl (j := f + r) (rfl) (reach_own (k := 0) rfl hx)) ?_
    refine Gq.val rfl rfl rfl (Val.cast (val_loadA rfl Try.ty59 rfl rfl rfl (cells_own (sz := 3) (j := f + r) (k := 0) rfl hx)) (v' := .agg #[.int .i64 x.1.item, .int .i64 x.1.who, .int .i64 x.1.n]) rfl) ?_
    refine Gq.val rfl rfl rfl (val_move rfl rfl) ?_
    refine Gq.val rfl rfl rfl (val_move rfl rfl) ?_
    refine Gq.val rfl rfl rfl (val_move rfl rfl) ?_
    refine Gq.val rfl rfl rfl (val_add rfl rfl rfl (r := ((f + (2 * r + 1) : Nat) : Int)) (w64 (by omega) (by omega))) ?_
    refine Gq.val rfl rfl rfl (val_ixa rfl Try.underlying25 Try.ty59 rfl rfl (j := f + (2 * r + 1)) (rfl) (reach_own (k := 0) rfl hyk)) ?_
    refine Gq.val rfl rfl rfl (Val.cast (val_loadA rfl Try.ty59 rfl rfl rfl (cells_own (sz := 3) (j := f + (2 * r + 1)) (k := 0) rfl hyk)) (v' := .agg #[.int .i64 y1.1.item, .int .i64 y1.1.who, .int .i64 y1.1.n]) rfl) ?_
    refine Gq.val rfl rfl rfl (val_callV (vs := [.agg #[.int .i64 x.1.item, .int .i64 x.1.who, .int .i64 x.1.n], .agg #[.int .i64 y1.1.item, .int .i64 y1.1.who, .int .i64 y1.1.n]]) (fs := []) (cs := []) rfl Try.fn26 rfl rfl (fun w H => dots_any x.1 y1.1)) ?_
    refine Gq.val rfl rfl rfl (Val.cast (val_lss rfl rfl rfl) (v' := .bool (decide (kK x < kK y1))) (congrArg Value.bool (decide_eq_decide.2 kK_lt))) ?_
    refine Gq.val rfl rfl rfl (val_notD rfl rfl) ?_
    refine Gq.done ?_
    refine Gx.thenN ?_
    refine Gx.dec rfl (fun h7 => ?_) (fun h7 => ?_)
    · refine Gx.ret ?_
      refine Gx.thenR ?_
      refine Gx.blkR ?_
      refine Gx.thenR ?_
      refine Gx.blkR ?_
      refine Gx.ret0 Try.results60 ?_
      exact ⟨_, hsh, hx0.done hx hk (by omega), rfl, sep1 _ _⟩
    refine Gx.skip ?_
    refine Gx.thenN ?_
    refine Gx.seq ?_
    refine Gx.regionO (fun j => j == 21) 23 [0, 1, 2, 3, 4, 5, 6, 7, 8, 9, 10, 11, 12, 13, 14, 15, 16, 17, 18, 19, 20, 21, 22] (fun us => match us with | [] => [Hp.own FK 3 v L, R] | u1 :: _ => [Hp.own FK 3 v (L.set (f + r) y1), R]) Try.mixed (by kernel_rfl) rfl ?_
    refine Gw.val rfl rfl rfl rfl rfl (fun us => val_move rfl rfl) ?_
    refine Gw.val rfl rfl rfl rfl rfl (fun us => val_move rfl rfl) ?_
    refine Gw.val rfl rfl rfl rfl rfl (fun us => val_move rfl rfl) ?_
    refine Gw.val rfl rfl rfl rfl rfl (fun us => val_add rfl rfl rfl (r := ((f + r : Nat) : Int)) (w64 (by omega) (by omega))) ?_
    refine Gw.val rfl rfl rfl rfl rfl (fun us => val_move rfl rfl) ?_
    refine Gw.val rfl rfl rfl rfl rfl (fun us => val_move rfl rfl) ?_
    refine Gw.val rfl rfl rfl rfl rfl (fun us => val_move rfl rfl) ?_
    refine Gw.val rfl rfl rfl rfl rfl (fun us => val_add rfl rfl rfl (r := ((f + (2 * r + 1) : Nat) : Int)) (w64 (by omega) (by omega))) ?_
    refine Gw.val rfl rfl rfl rfl rfl (fun us => val_move rfl rfl) ?_
    refine Gw.val rfl rfl rfl rfl rfl (fun us => val_move rfl rfl) ?_
    refine Gw.val rfl rfl rfl rfl rfl (fun us => val_move rfl rfl) ?_
    refine Gw.val rfl rfl rfl rfl rfl (fun us => val_add rfl rfl rfl (r := ((f + (2 * r + 1) : Nat) : Int)) (w64 (by omega) (by omega))) ?_
    refine Gw.val0 rfl rfl rfl (by kernel_rfl) rfl rfl (val_ixa rfl Try.underlying25 Try.ty59 rfl rfl (j := f + (2 * r + 1)) (rfl) (reach_own (k := 0) rfl hyk)) ?_
    refine Gw.val0 rfl rfl rfl (by kernel_rfl) rfl rfl (Val.cast (val_loadA rfl Try.ty59 rfl rfl rfl (cells_own (sz := 3) (j := f + (2 * r + 1)) (k := 0) rfl hyk)) (v' := .agg #[.int .i64 y1.1.item, .int .i64 y1.1.who, .int .i64 y1.1.n]) rfl) ?_
    refine Gw.val rfl rfl rfl rfl rfl (fun us => val_move rfl rfl) ?_
    refine Gw.val rfl rfl rfl rfl rfl (fun us => val_move rfl rfl) ?_
    refine Gw.val rfl rfl rfl rfl rfl (fun us => val_move rfl rfl) ?_
    refine Gw.val rfl rfl rfl rfl rfl (fun us => val_add rfl rfl rfl (r := ((f + r : Nat) : Int)) (w64 (by omega) (by omega))) ?_
    obtain ⟨x8, hx8⟩ := get_of_lt (xs := L.set (f + r) y1) (k := f + r) (by first | omega | (simp; omega))
    refine Gw.val rfl rfl rfl rfl rfl (fun us => match us with | [] => val_ixa rfl Try.underlying25 Try.ty59 rfl rfl (j := f + r) (rfl) (reach_own (k := 0) rfl hx) | u1 :: _ => val_ixa rfl Try.underlying25 Try.ty59 rfl rfl (j := f + r) (rfl) (reach_own (k := 0) rfl hx8)) ?_
    refine Gw.val0 rfl rfl rfl (by kernel_rfl) rfl rfl (Val.cast (val_loadA rfl Try.ty59 rfl rfl rfl (cells_own (sz := 3) (j := f + r) (k := 0) rfl hx)) (v' := .agg #[.int .i64 x.1.item, .int .i64 x.1.who, .int .i64 x.1.n]) rfl) ?_
    refine Gw.val0 rfl rfl rfl (by kernel_rfl) rfl rfl (val_ixa rfl Try.underlying25 Try.ty59 rfl rfl (j := f + r) (rfl) (reach_own (k := 0) rfl hx)) ?_
    refine Gw.chg0 rfl rfl rfl rfl (Eff.mono (eff_storeElA y1 rfl Try.ty59 rfl rfl rfl FK_one (k := 0) rfl FK_len hx (l' := [Hp.own FK 3 v (L.set (f + r) y1), R]) rfl) (fun _ _ h => congrArg sep h)) (fun _ => ?_)
    obtain ⟨x9, hx9⟩ := get_of_lt (xs := L.set (f + r) y1) (k := f + (2 * r + 1)) (by first | omega | (simp; omega))
    refine Gw.val0 rfl rfl rfl (by kernel_rfl) rfl rfl (val_ixa rfl Try.underlying25 Try.ty59 rfl rfl (j := f + (2 * r + 1)) (rfl) (reach_own (k := 0) rfl hx9)) ?_
    refine Gw.done ?_
    refine Gx.norm (l' := [Hp.own FK 3 v (L.set (f + r) y1), R]) rfl ?_
    refine Gx.eff0 rfl rfl (eff_storeElA x rfl Try.ty59 rfl rfl rfl FK_one (k := 0) rfl FK_len hx9 (l' := [Hp.own FK 3 v ((L.set (f + r) y1).set (f + (2 * r + 1)) x), R]) rfl) ?_
    rintro _ _ rfl
    refine Gx.done ?_
    refine Gx.thenN ?_
    refine Gx.region ?_
    refine Gx.val rfl rfl rfl (val_move rfl rfl) ?_
    refine Gx.val rfl rfl rfl (val_assign rfl rfl) ?_
    refine Gx.done ?_
    refine Gx.blkN ?_
    refine Gx.thenN ?_
    exact Gx.round (2 * r + 1, (L.set (f + r) y1).set (f + (2 * r + 1)) x) ⟨by first | omega | (dsimp only; omega), by first | omega | (dsimp only; omega), Sh.swap hsh (by omega) (by omega) (by omega) (by omega) hx hyk, hx0.down hlr (by omega) (by omega) hx hyk hk (by omega)⟩ (by first | omega | (dsimp only; omega)) ((.cons rfl (.cons rfl (.cons rfl (.cons rfl (.cons rfl (.cons rfl .nil))))))) rfl
  refine Gq.skipg rfl rfl rfl rfl rfl rfl ?_
  refine Gq.skipg rfl rfl rfl rfl rfl rfl ?_
  refine Gq.skipg rfl rfl rfl rfl rfl rfl ?_
  refine Gq.skipg rfl rfl rfl rfl rfl rfl ?_
  refine Gq.skipg rfl rfl rfl rfl rfl rfl ?_
  refine Gq.skipg rfl rfl rfl rfl rfl rfl ?_
  refine Gq.skipg rfl rfl rfl rfl rfl rfl ?_
  refine Gq.skipg rfl rfl rfl rfl rfl rfl ?_
  refine Gq.skipg rfl rfl rfl rfl rfl rfl ?_
  refine Gq.skipg rfl rfl rfl rfl rfl rfl ?_
  refine Gq.skipg rfl rfl rfl rfl rfl rfl ?_
  refine Gq.skipg rfl rfl rfl rfl rfl rfl ?_
  refine Gq.skipg rfl rfl rfl rfl rfl rfl ?_
  refine Gq.skipg rfl rfl rfl rfl rfl rfl ?_
  refine Gq.skipg rfl rfl rfl rfl rfl rfl ?_
  refine Gq.skipg rfl rfl rfl rfl rfl rfl ?_
  refine Gq.val rfl rfl rfl (val_pickF rfl rfl rfl) ?_
  refine Gq.done ?_
  refine Gx.thenN ?_
  refine Gx.f rfl ?_
  refine Gx.skip ?_
  refine Gx.thenN ?_
  refine Gx.seq ?_
  refine Gx.seq ?_
  have hyk : L[f + (2 * r + 1)]? = some y1 := hy1
  have hk : ∀ c y, (c = 2 * r + 1 ∨ c = 2 * r + 2) → c < hi → L[f + c]? = some y → kK y ≤ kK y1 := by
    intro c y hc hlt hy
    rcases hc with rfl | rfl
    · rw [hy1] at hy; cases hy; omega
    · omega
  refine Gx.regionQ Try.mixed (by kernel_rfl) ?_
  refine Gq.val rfl rfl rfl (val_move rfl rfl) ?_
  refine Gq.val rfl rfl rfl (val_move rfl rfl) ?_
  refine Gq.val rfl rfl rfl (val_move rfl rfl) ?_
  refine Gq.val rfl rfl rfl (val_move rfl rfl) ?_
  refine Gq.val rfl rfl rfl (val_add rfl rfl rfl (r := ((f + r : Nat) : Int)) (w64 (by omega) (by omega))) ?_
  refine Gq.val rfl rfl rfl (val_ixa rfl Try.underlying25 Try.ty59 rfl rfl (j := f + r) (rfl) (reach_own (k := 0) rfl hx)) ?_
  refine Gq.val rfl rfl rfl (Val.cast (val_loadA rfl Try.ty59 rfl rfl rfl (cells_own (sz := 3) (j := f + r) (k := 0) rfl hx)) (v' := .agg #[.int .i64 x.1.item, .int .i64 x.1.who, .int .i64 x.1.n]) rfl) ?_
  refine Gq.val rfl rfl rfl (val_move rfl rfl) ?_
  refine Gq.val rfl rfl rfl (val_move rfl rfl) ?_
  refine Gq.val rfl rfl rfl (val_move rfl rfl) ?_
  refine Gq.val rfl rfl rfl (val_add rfl rfl rfl (r := ((f + (2 * r + 1) : Nat) : Int)) (w64 (by omega) (by omega))) ?_
  refine Gq.val rfl rfl rfl (val_ixa rfl Try.underlying25 Try.ty59 rfl rfl (j := f + (2 * r + 1)) (rfl) (reach_own (k := 0) rfl hyk)) ?_
  refine Gq.val rfl rfl rfl (Val.cast (val_loadA rfl Try.ty59 rfl rfl rfl (cells_own (sz := 3) (j := f + (2 * r + 1)) (k := 0) rfl hyk)) (v' := .agg #[.int .i64 y1.1.item, .int .i64 y1.1.who, .int .i64 y1.1.n]) rfl) ?_
  refine Gq.val rfl rfl rfl (val_callV (vs := [.agg #[.int .i64 x.1.item, .int .i64 x.1.who, .int .i64 x.1.n], .agg #[.int .i64 y1.1.item, .int .i64 y1.1.who, .int .i64 y1.1.n]]) (fs := []) (cs := []) rfl Try.fn26 rfl rfl (fun w H => dots_any x.1 y1.1)) ?_
  refine Gq.val rfl rfl rfl (Val.cast (val_lss rfl rfl rfl) (v' := .bool (decide (kK x < kK y1))) (congrArg Value.bool (decide_eq_decide.2 kK_lt))) ?_
  refine Gq.val rfl rfl rfl (val_notD rfl rfl) ?_
  refine Gq.done ?_
  refine Gx.thenN ?_
  refine Gx.dec rfl (fun h10 => ?_) (fun h10 => ?_)
  · refine Gx.ret ?_
    refine Gx.thenR ?_
    refine Gx.blkR ?_
    refine Gx.thenR ?_
    refine Gx.blkR ?_
    refine Gx.ret0 Try.results60 ?_
    exact ⟨_, hsh, hx0.done hx hk (by omega), rfl, sep1 _ _⟩
  refine Gx.skip ?_
  refine Gx.thenN ?_
  refine Gx.seq ?_
  refine Gx.regionO (fun j => j == 21) 23 [0, 1, 2, 3, 4, 5, 6, 7, 8, 9, 10, 11, 12, 13, 14, 15, 16, 17, 18, 19, 20, 21, 22] (fun us => match us with | [] => [Hp.own FK 3 v L, R] | u1 :: _ => [Hp.own FK 3 v (L.set (f + r) y1), R]) Try.mixed (by kernel_rfl) rfl ?_
  refine Gw.val rfl rfl rfl rfl rfl (fun us => val_move rfl rfl) ?_
  refine Gw.val rfl rfl rfl rfl rfl (fun us => val_move rfl rfl) ?_
  refine Gw.val rfl rfl rfl rfl rfl (fun us => val_move rfl rfl) ?_
  refine Gw.val rfl rfl rfl rfl rfl (fun us => val_add rfl rfl rfl (r := ((f + r : Nat) : Int)) (w64 (by omega) (by omega))) ?_
  refine Gw.val rfl rfl rfl rfl rfl (fun us => val_move rfl rfl) ?_
  refine Gw.val rfl rfl rfl rfl rfl (fun us => val_move rfl rfl) ?_
  refine Gw.val rfl rfl rfl rfl rfl (fun us => val_move rfl rfl) ?_
  refine Gw.val rfl rfl rfl rfl rfl (fun us => val_add rfl rfl rfl (r := ((f + (2 * r + 1) : Nat) : Int)) (w64 (by omega) (by omega))) ?_
  refine Gw.val rfl rfl rfl rfl rfl (fun us => val_move rfl rfl) ?_
  refine Gw.val rfl rfl rfl rfl rfl (fun us => val_move rfl rfl) ?_
  refine Gw.val rfl rfl rfl rfl rfl (fun us => val_move rfl rfl) ?_
  refine Gw.val rfl rfl rfl rfl rfl (fun us => val_add rfl rfl rfl (r := ((f + (2 * r + 1) : Nat) : Int)) (w64 (by omega) (by omega))) ?_
  refine Gw.val0 rfl rfl rfl (by kernel_rfl) rfl rfl (val_ixa rfl Try.underlying25 Try.ty59 rfl rfl (j := f + (2 * r + 1)) (rfl) (reach_own (k := 0) rfl hyk)) ?_
  refine Gw.val0 rfl rfl rfl (by kernel_rfl) rfl rfl (Val.cast (val_loadA rfl Try.ty59 rfl rfl rfl (cells_own (sz := 3) (j := f + (2 * r + 1)) (k := 0) rfl hyk)) (v' := .agg #[.int .i64 y1.1.item, .int .i64 y1.1.who, .int .i64 y1.1.n]) rfl) ?_
  refine Gw.val rfl rfl rfl rfl rfl (fun us => val_move rfl rfl) ?_
  refine Gw.val rfl rfl rfl rfl rfl (fun us => val_move rfl rfl) ?_
  refine Gw.val rfl rfl rfl rfl rfl (fun us => val_move rfl rfl) ?_
  refine Gw.val rfl rfl rfl rfl rfl (fun us => val_add rfl rfl rfl (r := ((f + r : Nat) : Int)) (w64 (by omega) (by omega))) ?_
  obtain ⟨x11, hx11⟩ := get_of_lt (xs := L.set (f + r) y1) (k := f + r) (by first | omega | (simp; omega))
  refine Gw.val rfl rfl rfl rfl rfl (fun us => match us with | [] => val_ixa rfl Try.underlying25 Try.ty59 rfl rfl (j := f + r) (rfl) (reach_own (k := 0) rfl hx) | u1 :: _ => val_ixa rfl Try.underlying25 Try.ty59 rfl rfl (j := f + r) (rfl) (reach_own (k := 0) rfl hx11)) ?_
  refine Gw.val0 rfl rfl rfl (by kernel_rfl) rfl rfl (Val.cast (val_loadA rfl Try.ty59 rfl rfl rfl (cells_own (sz := 3) (j := f + r) (k := 0) rfl hx)) (v' := .agg #[.int .i64 x.1.item, .int .i64 x.1.who, .int .i64 x.1.n]) rfl) ?_
  refine Gw.val0 rfl rfl rfl (by kernel_rfl) rfl rfl (val_ixa rfl Try.underlying25 Try.ty59 rfl rfl (j := f + r) (rfl) (reach_own (k := 0) rfl hx)) ?_
  refine Gw.chg0 rfl rfl rfl rfl (Eff.mono (eff_storeElA y1 rfl Try.ty59 rfl rfl rfl FK_one (k := 0) rfl FK_len hx (l' := [Hp.own FK 3 v (L.set (f + r) y1), R]) rfl) (fun _ _ h => congrArg sep h)) (fun _ => ?_)
  obtain ⟨x12, hx12⟩ := get_of_lt (xs := L.set (f + r) y1) (k := f + (2 * r + 1)) (by first | omega | (simp; omega))
  refine Gw.val0 rfl rfl rfl (by kernel_rfl) rfl rfl (val_ixa rfl Try.underlying25 Try.ty59 rfl rfl (j := f + (2 * r + 1)) (rfl) (reach_own (k := 0) rfl hx12)) ?_
  refine Gw.done ?_
  refine Gx.norm (l' := [Hp.own FK 3 v (L.set (f + r) y1), R]) rfl ?_
  refine Gx.eff0 rfl rfl (eff_storeElA x rfl Try.ty59 rfl rfl rfl FK_one (k := 0) rfl FK_len hx12 (l' := [Hp.own FK 3 v ((L.set (f + r) y1).set (f + (2 * r + 1)) x), R]) rfl) ?_
  rintro _ _ rfl
  refine Gx.done ?_
  refine Gx.thenN ?_
  refine Gx.region ?_
  refine Gx.val rfl rfl rfl (val_move rfl rfl) ?_
  refine Gx.val rfl rfl rfl (val_assign rfl rfl) ?_
  refine Gx.done ?_
  refine Gx.blkN ?_
  refine Gx.thenN ?_
  exact Gx.round (2 * r + 1, (L.set (f + r) y1).set (f + (2 * r + 1)) x) ⟨by first | omega | (dsimp only; omega), by first | omega | (dsimp only; omega), Sh.swap hsh (by omega) (by omega) (by omega) (by omega) hx hyk, hx0.down hlr (by omega) (by omega) hx hyk hk (by omega)⟩ (by first | omega | (dsimp only; omega)) ((.cons rfl (.cons rfl (.cons rfl (.cons rfl (.cons rfl (.cons rfl .nil))))))) rfl

end Go.Proofs.Ytfpkfbffpkjgbaa
