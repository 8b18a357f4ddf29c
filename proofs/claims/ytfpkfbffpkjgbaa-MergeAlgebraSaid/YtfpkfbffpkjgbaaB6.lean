/- What three copies are together does not hang on order and brackets, and on whether one comes twice. The walk. No condition. -/
import Derived.Test.YtfpkfbffpkjgbaaM5
namespace Go.Proofs.Ytfpkfbffpkjgbaa
open Go.RowKit
set_option linter.unusedVariables false
set_option linter.unusedSimpArgs false
set_option maxRecDepth 100000

set_option maxHeartbeats 4000000 in
theorem algebra_any {W : World} {n : Int} {a b c : Cp} {ax1 ax2 ax3 ay1 ay2 ay3 az1 az2 az3 : Option Addr} {nx1 nx2 nx3 ny1 ny2 ny3 nz1 nz2 nz3 cx1 cx2 cx3 cy1 cy2 cy3 cz1 cz2 cz3 : Nat} (hxa : InM W (.slice ax1 nx1 cx1) (.slice ax2 nx2 cx2) (.slice ax3 nx3 cx3) a) (hraa : ∀ d ∈ a.ad, Rng d) (hrga : ∀ d ∈ a.go, Rng d) (hxb : InM W (.slice ay1 ny1 cy1) (.slice ay2 ny2 cy2) (.slice ay3 ny3 cy3) b) (hrab : ∀ d ∈ b.ad, Rng d) (hrgb : ∀ d ∈ b.go, Rng d) (hxc : InM W (.slice az1 nz1 cz1) (.slice az2 nz2 cz2) (.slice az3 nz3 cz3) c) (hrac : ∀ d ∈ c.ad, Rng d) (hrgc : ∀ d ∈ c.go, Rng d) :
    Calls Try.prog 3 #[.int .i64 n, .agg #[.slice ax1 nx1 cx1, .int .i64 a.la.n, .int .i64 a.la.who, .int .i64 a.la.val, .slice ax2 nx2 cx2, .slice ax3 nx3 cx3], .agg #[.slice ay1 ny1 cy1, .int .i64 b.la.n, .int .i64 b.la.who, .int .i64 b.la.val, .slice ay2 ny2 cy2, .slice ay3 ny3 cy3], .agg #[.slice az1 nz1 cz1, .int .i64 c.la.n, .int .i64 c.la.who, .int .i64 c.la.val, .slice az2 nz2 cz2, .slice az3 nz3 cz3]] W fun e w' => e = .returned (.bool true) ∧ Below W.heap.size W w' := by
  refine calls_pure (Gx.enter (l := []) Try.func3 rfl Try.ntmps3 rfl (Sat.start W) ?_)
  refine Gx.know (m' := [(0, .int .i64 n), (1, .agg #[.slice ax1 nx1 cx1, .int .i64 a.la.n, .int .i64 a.la.who, .int .i64 a.la.val, .slice ax2 nx2 cx2, .slice ax3 nx3 cx3]), (2, .agg #[.slice ay1 ny1 cy1, .int .i64 b.la.n, .int .i64 b.la.who, .int .i64 b.la.val, .slice ay2 ny2 cy2, .slice ay3 ny3 cy3]), (3, .agg #[.slice az1 nz1 cz1, .int .i64 c.la.n, .int .i64 c.la.who, .int .i64 c.la.val, .slice az2 nz2 cz2, .slice az3 nz3 cz3])]) (.cons rfl (.cons rfl (.cons rfl (.cons rfl .nil)))) ?_
  refine Gx.seq ?_
  refine Gx.region ?_
  refine Gx.eff rfl rfl rfl (eff_box rfl rfl (vs := [.slice ax1 nx1 cx1, .int .i64 a.la.n, .int .i64 a.la.who, .int .i64 a.la.val, .slice ax2 nx2 cx2, .slice ax3 nx3 cx3]) rfl) ?_
  rintro _ _ ⟨b1, rfl, rfl⟩
  refine Gx.eff rfl rfl rfl (eff_box rfl rfl (vs := [.slice ay1 ny1 cy1, .int .i64 b.la.n, .int .i64 b.la.who, .int .i64 b.la.val, .slice ay2 ny2 cy2, .slice ay3 ny3 cy3]) rfl) ?_
  rintro _ _ ⟨b2, rfl, rfl⟩
  refine Gx.eff rfl rfl rfl (eff_box rfl rfl (vs := [.slice az1 nz1 cz1, .int .i64 c.la.n, .int .i64 c.la.who, .int .i64 c.la.val, .slice az2 nz2 cz2, .slice az3 nz3 cz3]) rfl) ?_
  rintro _ _ ⟨b3, rfl, rfl⟩
  refine Gx.val rfl rfl rfl (val_assign rfl rfl) ?_
  refine Gx.done ?_
  refine Gx.thenN ?_
  refine Gx.seq ?_
  refine Gx.region ?_
  refine Gx.val rfl rfl rfl (val_move rfl rfl) ?_
  refine Gx.val rfl rfl rfl (Val.cast (val_loadA rfl Try.ty27 rfl rfl rfl (cells_rec (k := 2) rfl)) (v' := .agg #[.slice ax1 nx1 cx1, .int .i64 a.la.n, .int .i64 a.la.who, .int .i64 a.la.val, .slice ax2 nx2 cx2, .slice ax3 nx3 cx3]) rfl) ?_
  refine Gx.val rfl rfl rfl (Val.cast (val_loadA rfl Try.ty27 rfl rfl rfl (cells_rec (k := 1) rfl)) (v' := .agg #[.slice ay1 ny1 cy1, .int .i64 b.la.n, .int .i64 b.la.who, .int .i64 b.la.val, .slice ay2 ny2 cy2, .slice ay3 ny3 cy3]) rfl) ?_
  refine Gx.callB rfl rfl rfl (vs := [.int .i64 n, .agg #[.slice ax1 nx1 cx1, .int .i64 a.la.n, .int .i64 a.la.who, .int .i64 a.la.val, .slice ax2 nx2 cx2, .slice ax3 nx3 cx3], .agg #[.slice ay1 ny1 cy1, .int .i64 b.la.n, .int .i64 b.la.who, .int .i64 b.la.val, .slice ay2 ny2 cy2, .slice ay3 ny3 cy3]]) rfl Try.fn9 rfl (R := (fun u w' => ∃ (p q r : Value) (code : Int) (o : Cp), u = .tuple #[.agg #[p, .int .i64 o.la.n, .int .i64 o.la.who, .int .i64 o.la.val, q, r], .int .i64 code] ∧ InM w' p q r o ∧ (code = 0 → GoodC n a ∧ GoodC n b) ∧ (GoodC n a → GoodC n b → mergeC a b = (code, o)) ∧ FineC o)) (fun w H => mg_new (n := n) (a := a) (b := b) ⟨hxa.cn.below H.below, hxa.ad.below H.below, hxa.go.below H.below⟩ ⟨hxb.cn.below H.below, hxb.ad.below H.below, hxb.go.below H.below⟩ hraa hrga hrab hrgb) ?_
  rintro _ W4 ⟨p1, q1, r1, e1, o1, rfl, hi1, hk1, hm1, hf1⟩ H5
  have hW6 := H5.below
  have hs7 := hxa.cn.below H5.below
  have hs8 := hxa.ad.below H5.below
  have hs9 := hxa.go.below H5.below
  have hs10 := hxb.cn.below H5.below
  have hs11 := hxb.ad.below H5.below
  have hs12 := hxb.go.below H5.below
  have hs13 := hxc.cn.below H5.below
  have hs14 := hxc.ad.below H5.below
  have hs15 := hxc.go.below H5.below
  have hb16 := (H5.at_ (k := 0) rfl).rec_.1
  have hc17 := (H5.at_ (k := 0) rfl).cell 0 (u := .slice az1 nz1 cz1) rfl
  have hc18 := (H5.at_ (k := 0) rfl).cell 1 (u := .int .i64 c.la.n) rfl
  have hc19 := (H5.at_ (k := 0) rfl).cell 2 (u := .int .i64 c.la.who) rfl
  have hc20 := (H5.at_ (k := 0) rfl).cell 3 (u := .int .i64 c.la.val) rfl
  have hc21 := (H5.at_ (k := 0) rfl).cell 4 (u := .slice az2 nz2 cz2) rfl
  have hc22 := (H5.at_ (k := 0) rfl).cell 5 (u := .slice az3 nz3 cz3) rfl
  have hb23 := (H5.at_ (k := 1) rfl).rec_.1
  have hc24 := (H5.at_ (k := 1) rfl).cell 0 (u := .slice ay1 ny1 cy1) rfl
  have hc25 := (H5.at_ (k := 1) rfl).cell 1 (u := .int .i64 b.la.n) rfl
  have hc26 := (H5.at_ (k := 1) rfl).cell 2 (u := .int .i64 b.la.who) rfl
  have hc27 := (H5.at_ (k := 1) rfl).cell 3 (u := .int .i64 b.la.val) rfl
  have hc28 := (H5.at_ (k := 1) rfl).cell 4 (u := .slice ay2 ny2 cy2) rfl
  have hc29 := (H5.at_ (k := 1) rfl).cell 5 (u := .slice ay3 ny3 cy3) rfl
  have hb30 := (H5.at_ (k := 2) rfl).rec_.1
  have hc31 := (H5.at_ (k := 2) rfl).cell 0 (u := .slice ax1 nx1 cx1) rfl
  have hc32 := (H5.at_ (k := 2) rfl).cell 1 (u := .int .i64 a.la.n) rfl
  have hc33 := (H5.at_ (k := 2) rfl).cell 2 (u := .int .i64 a.la.who) rfl
  have hc34 := (H5.at_ (k := 2) rfl).cell 3 (u := .int .i64 a.la.val) rfl
  have hc35 := (H5.at_ (k := 2) rfl).cell 4 (u := .slice ax2 nx2 cx2) rfl
  have hc36 := (H5.at_ (k := 2) rfl).cell 5 (u := .slice ax3 nx3 cx3) rfl
  refine Gx.val rfl rfl rfl (val_move rfl rfl) ?_
  refine Gx.val rfl rfl rfl (val_extract rfl rfl rfl) ?_
  refine Gx.val rfl rfl rfl (val_extract rfl rfl rfl) ?_
  refine Gx.eff rfl rfl rfl (eff_alloc rfl Try.ty27 (vs := [.slice none 0 0, .int .i64 0, .int .i64 0, .int .i64 0, .slice none 0 0, .slice none 0 0]) rfl) ?_
  rintro _ _ ⟨b37, rfl, rfl⟩
  refine Gx.eff0 rfl rfl (eff_store rfl Try.ty27 rfl rfl (us := [p1, .int .i64 o1.la.n, .int .i64 o1.la.who, .int .i64 o1.la.val, q1, r1]) rfl rfl (by simp only [List.all_cons, List.all_nil, Bool.true_and, Bool.and_true, IsS.one hi1.cn.isS, IsS.one hi1.ad.isS, IsS.one hi1.go.isS] <;> rfl) (k := 0) rfl (rfl) (vs' := [p1, .int .i64 o1.la.n, .int .i64 o1.la.who, .int .i64 o1.la.val, q1, r1]) (rfl) (l' := [Hp.rec_ b37 [p1, .int .i64 o1.la.n, .int .i64 o1.la.who, .int .i64 o1.la.val, q1, r1]]) rfl) ?_
  rintro _ _ rfl
  refine Gx.val rfl rfl rfl (val_assign rfl rfl) ?_
  refine Gx.done ?_
  refine Gx.thenN ?_
  refine Gx.seq ?_
  refine Gx.region ?_
  refine Gx.val rfl rfl rfl (val_move rfl rfl) ?_
  refine Gx.val rfl rfl rfl (Val.cast (val_loadA rfl Try.ty27 rfl rfl (us := [.slice ay1 ny1 cy1, .int .i64 b.la.n, .int .i64 b.la.who, .int .i64 b.la.val, .slice ay2 ny2 cy2, .slice ay3 ny3 cy3]) rfl (cells_cons (cell_old hb23 hc24) (cells_cons (cell_old hb23 hc25) (cells_cons (cell_old hb23 hc26) (cells_cons (cell_old hb23 hc27) (cells_cons (cell_old hb23 hc28) (cells_cons (cell_old hb23 hc29) cells_nil))))))) (v' := .agg #[.slice ay1 ny1 cy1, .int .i64 b.la.n, .int .i64 b.la.who, .int .i64 b.la.val, .slice ay2 ny2 cy2, .slice ay3 ny3 cy3]) rfl) ?_
  refine Gx.val rfl rfl rfl (Val.cast (val_loadA rfl Try.ty27 rfl rfl (us := [.slice ax1 nx1 cx1, .int .i64 a.la.n, .int .i64 a.la.who, .int .i64 a.la.val, .slice ax2 nx2 cx2, .slice ax3 nx3 cx3]) rfl (cells_cons (cell_old hb30 hc31) (cells_cons (cell_old hb30 hc32) (cells_cons (cell_old hb30 hc33) (cells_cons (cell_old hb30 hc34) (cells_cons (cell_old hb30 hc35) (cells_cons (cell_old hb30 hc36) cells_nil))))))) (v' := .agg #[.slice ax1 nx1 cx1, .int .i64 a.la.n, .int .i64 a.la.who, .int .i64 a.la.val, .slice ax2 nx2 cx2, .slice ax3 nx3 cx3]) rfl) ?_
  refine Gx.callB rfl rfl rfl (vs := [.int .i64 n, .agg #[.slice ay1 ny1 cy1, .int .i64 b.la.n, .int .i64 b.la.who, .int .i64 b.la.val, .slice ay2 ny2 cy2, .slice ay3 ny3 cy3], .agg #[.slice ax1 nx1 cx1, .int .i64 a.la.n, .int .i64 a.la.who, .int .i64 a.la.val, .slice ax2 nx2 cx2, .slice ax3 nx3 cx3]]) rfl Try.fn9 rfl (R := (fun u w' => ∃ (p q r : Value) (code : Int) (o : Cp), u = .tuple #[.agg #[p, .int .i64 o.la.n, .int .i64 o.la.who, .int .i64 o.la.val, q, r], .int .i64 code] ∧ InM w' p q r o ∧ (code = 0 → GoodC n b ∧ GoodC n a) ∧ (GoodC n b → GoodC n a → mergeC b a = (code, o)) ∧ FineC o)) (fun w H => mg_new (n := n) (a := b) (b := a) ⟨hs10.below H.below, hs11.below H.below, hs12.below H.below⟩ ⟨hs7.below H.below, hs8.below H.below, hs9.below H.below⟩ hrab hrgb hraa hrga) ?_
  rintro _ W38 ⟨p2, q2, r2, e2, o2, rfl, hi2, hk2, hm2, hf2⟩ H39
  have hW40 := hW6.trans (H39.below.mono hW6.size)
  have hs41 := hs7.below H39.below
  have hs42 := hs8.below H39.below
  have hs43 := hs9.below H39.below
  have hs44 := hs10.below H39.below
  have hs45 := hs11.below H39.below
  have hs46 := hs12.below H39.below
  have hs47 := hs13.below H39.below
  have hs48 := hs14.below H39.below
  have hs49 := hs15.below H39.below
  have hs50 := hi1.cn.below H39.below
  have hs51 := hi1.ad.below H39.below
  have hs52 := hi1.go.below H39.below
  have hb53 := Nat.lt_of_lt_of_le hb16 H39.size
  have hc54 := (H39.below.cell (p := ⟨b3, 0, none⟩) hb16).trans hc17
  have hb55 := Nat.lt_of_lt_of_le hb16 H39.size
  have hc56 := (H39.below.cell (p := ⟨b3, 1, none⟩) hb16).trans hc18
  have hb57 := Nat.lt_of_lt_of_le hb16 H39.size
  have hc58 := (H39.below.cell (p := ⟨b3, 2, none⟩) hb16).trans hc19
  have hb59 := Nat.lt_of_lt_of_le hb16 H39.size
  have hc60 := (H39.below.cell (p := ⟨b3, 3, none⟩) hb16).trans hc20
  have hb61 := Nat.lt_of_lt_of_le hb16 H39.size
  have hc62 := (H39.below.cell (p := ⟨b3, 4, none⟩) hb16).trans hc21
  have hb63 := Nat.lt_of_lt_of_le hb16 H39.size
  have hc64 := (H39.below.cell (p := ⟨b3, 5, none⟩) hb16).trans hc22
  have hb65 := Nat.lt_of_lt_of_le hb23 H39.size
  have hc66 := (H39.below.cell (p := ⟨b2, 0, none⟩) hb23).trans hc24
  have hb67 := Nat.lt_of_lt_of_le hb23 H39.size
  have hc68 := (H39.below.cell (p := ⟨b2, 1, none⟩) hb23).trans hc25
  have hb69 := Nat.lt_of_lt_of_le hb23 H39.size
  have hc70 := (H39.below.cell (p := ⟨b2, 2, none⟩) hb23).trans hc26
  have hb71 := Nat.lt_of_lt_of_le hb23 H39.size
  have hc72 := (H39.below.cell (p := ⟨b2, 3, none⟩) hb23).trans hc27
  have hb73 := Nat.lt_of_lt_of_le hb23 H39.size
  have hc74 := (H39.below.cell (p := ⟨b2, 4, none⟩) hb23).trans hc28
  have hb75 := Nat.lt_of_lt_of_le hb23 H39.size
  have hc76 := (H39.below.cell (p := ⟨b2, 5, none⟩) hb23).trans hc29
  have hb77 := Nat.lt_of_lt_of_le hb30 H39.size
  have hc78 := (H39.below.cell (p := ⟨b1, 0, none⟩) hb30).trans hc31
  have hb79 := Nat.lt_of_lt_of_le hb30 H39.size
  have hc80 := (H39.below.cell (p := ⟨b1, 1, none⟩) hb30).trans hc32
  have hb81 := Nat.lt_of_lt_of_le hb30 H39.size
  have hc82 := (H39.below.cell (p := ⟨b1, 2, none⟩) hb30).trans hc33
  have hb83 := Nat.lt_of_lt_of_le hb30 H39.size
  have hc84 := (H39.below.cell (p := ⟨b1, 3, none⟩) hb30).trans hc34
  have hb85 := Nat.lt_of_lt_of_le hb30 H39.size
  have hc86 := (H39.below.cell (p := ⟨b1, 4, none⟩) hb30).trans hc35
  have hb87 := Nat.lt_of_lt_of_le hb30 H39.size
  have hc88 := (H39.below.cell (p := ⟨b1, 5, none⟩) hb30).trans hc36
  have hb89 := (H39.at_ (k := 0) rfl).rec_.1
  have hc90 := (H39.at_ (k := 0) rfl).cell 0 (u := p1) rfl
  have hc91 := (H39.at_ (k := 0) rfl).cell 1 (u := .int .i64 o1.la.n) rfl
  have hc92 := (H39.at_ (k := 0) rfl).cell 2 (u := .int .i64 o1.la.who) rfl
  have hc93 := (H39.at_ (k := 0) rfl).cell 3 (u := .int .i64 o1.la.val) rfl
  have hc94 := (H39.at_ (k := 0) rfl).cell 4 (u := q1) rfl
  have hc95 := (H39.at_ (k := 0) rfl).cell 5 (u := r1) rfl
  refine Gx.val rfl rfl rfl (val_move rfl rfl) ?_
  refine Gx.val rfl rfl rfl (val_extract rfl rfl rfl) ?_
  refine Gx.val rfl rfl rfl (val_extract rfl rfl rfl) ?_
  refine Gx.eff rfl rfl rfl (eff_alloc rfl Try.ty27 (vs := [.slice none 0 0, .int .i64 0, .int .i64 0, .int .i64 0, .slice none 0 0, .slice none 0 0]) rfl) ?_
  rintro _ _ ⟨b96, rfl, rfl⟩
  refine Gx.eff0 rfl rfl (eff_store rfl Try.ty27 rfl rfl (us := [p2, .int .i64 o2.la.n, .int .i64 o2.la.who, .int .i64 o2.la.val, q2, r2]) rfl rfl (by simp only [List.all_cons, List.all_nil, Bool.true_and, Bool.and_true, IsS.one hi2.cn.isS, IsS.one hi2.ad.isS, IsS.one hi2.go.isS] <;> rfl) (k := 0) rfl (rfl) (vs' := [p2, .int .i64 o2.la.n, .int .i64 o2.la.who, .int .i64 o2.la.val, q2, r2]) (rfl) (l' := [Hp.rec_ b96 [p2, .int .i64 o2.la.n, .int .i64 o2.la.who, .int .i64 o2.la.val, q2, r2]]) rfl) ?_
  rintro _ _ rfl
  refine Gx.val rfl rfl rfl (val_assign rfl rfl) ?_
  refine Gx.done ?_
  refine Gx.thenN ?_
  refine Gx.seq ?_
  refine Gx.region ?_
  refine Gx.val rfl rfl rfl (val_move rfl rfl) ?_
  refine Gx.val rfl rfl rfl (Val.cast (val_loadA rfl Try.ty27 rfl rfl (us := [.slice ax1 nx1 cx1, .int .i64 a.la.n, .int .i64 a.la.who, .int .i64 a.la.val, .slice ax2 nx2 cx2, .slice ax3 nx3 cx3]) rfl (cells_cons (cell_old hb77 hc78) (cells_cons (cell_old hb79 hc80) (cells_cons (cell_old hb81 hc82) (cells_cons (cell_old hb83 hc84) (cells_cons (cell_old hb85 hc86) (cells_cons (cell_old hb87 hc88) cells_nil))))))) (v' := .agg #[.slice ax1 nx1 cx1, .int .i64 a.la.n, .int .i64 a.la.who, .int .i64 a.la.val, .slice ax2 nx2 cx2, .slice ax3 nx3 cx3]) rfl) ?_
  refine Gx.val rfl rfl rfl (Val.cast (val_loadA rfl Try.ty27 rfl rfl (us := [.slice ax1 nx1 cx1, .int .i64 a.la.n, .int .i64 a.la.who, .int .i64 a.la.val, .slice ax2 nx2 cx2, .slice ax3 nx3 cx3]) rfl (cells_cons (cell_old hb77 hc78) (cells_cons (cell_old hb79 hc80) (cells_cons (cell_old hb81 hc82) (cells_cons (cell_old hb83 hc84) (cells_cons (cell_old hb85 hc86) (cells_cons (cell_old hb87 hc88) cells_nil))))))) (v' := .agg #[.slice ax1 nx1 cx1, .int .i64 a.la.n, .int .i64 a.la.who, .int .i64 a.la.val, .slice ax2 nx2 cx2, .slice ax3 nx3 cx3]) rfl) ?_
  refine Gx.callB rfl rfl rfl (vs := [.int .i64 n, .agg #[.slice ax1 nx1 cx1, .int .i64 a.la.n, .int .i64 a.la.who, .int .i64 a.la.val, .slice ax2 nx2 cx2, .slice ax3 nx3 cx3], .agg #[.slice ax1 nx1 cx1, .int .i64 a.la.n, .int .i64 a.la.who, .int .i64 a.la.val, .slice ax2 nx2 cx2, .slice ax3 nx3 cx3]]) rfl Try.fn9 rfl (R := (fun u w' => ∃ (p q r : Value) (code : Int) (o : Cp), u = .tuple #[.agg #[p, .int .i64 o.la.n, .int .i64 o.la.who, .int .i64 o.la.val, q, r], .int .i64 code] ∧ InM w' p q r o ∧ (code = 0 → GoodC n a ∧ GoodC n a) ∧ (GoodC n a → GoodC n a → mergeC a a = (code, o)) ∧ FineC o)) (fun w H => mg_new (n := n) (a := a) (b := a) ⟨hs41.below H.below, hs42.below H.below, hs43.below H.below⟩ ⟨hs41.below H.below, hs42.below H.below, hs43.below H.below⟩ hraa hrga hraa hrga) ?_
  rintro _ W97 ⟨p3, q3, r3, e3, o3, rfl, hi3, hk3, hm3, hf3⟩ H98
  have hW99 := hW40.trans (H98.below.mono hW40.size)
  have hs100 := hs41.below H98.below
  have hs101 := hs42.below H98.below
  have hs102 := hs43.below H98.below
  have hs103 := hs44.below H98.below
  have hs104 := hs45.below H98.below
  have hs105 := hs46.below H98.below
  have hs106 := hs47.below H98.below
  have hs107 := hs48.below H98.below
  have hs108 := hs49.below H98.below
  have hs109 := hs50.below H98.below
  have hs110 := hs51.below H98.below
  have hs111 := hs52.below H98.below
  have hs112 := hi2.cn.below H98.below
  have hs113 := hi2.ad.below H98.below
  have hs114 := hi2.go.below H98.below
  have hb115 := Nat.lt_of_lt_of_le hb53 H98.size
  have hc116 := (H98.below.cell (p := ⟨b3, 0, none⟩) hb53).trans hc54
  have hb117 := Nat.lt_of_lt_of_le hb55 H98.size
  have hc118 := (H98.below.cell (p := ⟨b3, 1, none⟩) hb55).trans hc56
  have hb119 := Nat.lt_of_lt_of_le hb57 H98.size
  have hc120 := (H98.below.cell (p := ⟨b3, 2, none⟩) hb57).trans hc58
  have hb121 := Nat.lt_of_lt_of_le hb59 H98.size
  have hc122 := (H98.below.cell (p := ⟨b3, 3, none⟩) hb59).trans hc60
  have hb123 := Nat.lt_of_lt_of_le hb61 H98.size
  have hc124 := (H98.below.cell (p := ⟨b3, 4, none⟩) hb61).trans hc62
  have hb125 := Nat.lt_of_lt_of_le hb63 H98.size
  have hc126 := (H98.below.cell (p := ⟨b3, 5, none⟩) hb63).trans hc64
  have hb127 := Nat.lt_of_lt_of_le hb65 H98.size
  have hc128 := (H98.below.cell (p := ⟨b2, 0, none⟩) hb65).trans hc66
  have hb129 := Nat.lt_of_lt_of_le hb67 H98.size
  have hc130 := (H98.below.cell (p := ⟨b2, 1, none⟩) hb67).trans hc68
  have hb131 := Nat.lt_of_lt_of_le hb69 H98.size
  have hc132 := (H98.below.cell (p := ⟨b2, 2, none⟩) hb69).trans hc70
  have hb133 := Nat.lt_of_lt_of_le hb71 H98.size
  have hc134 := (H98.below.cell (p := ⟨b2, 3, none⟩) hb71).trans hc72
  have hb135 := Nat.lt_of_lt_of_le hb73 H98.size
  have hc136 := (H98.below.cell (p := ⟨b2, 4, none⟩) hb73).trans hc74
  have hb137 := Nat.lt_of_lt_of_le hb75 H98.size
  have hc138 := (H98.below.cell (p := ⟨b2, 5, none⟩) hb75).trans hc76
  have hb139 := Nat.lt_of_lt_of_le hb77 H98.size
  have hc140 := (H98.below.cell (p := ⟨b1, 0, none⟩) hb77).trans hc78
  have hb141 := Nat.lt_of_lt_of_le hb79 H98.size
  have hc142 := (H98.below.cell (p := ⟨b1, 1, none⟩) hb79).trans hc80
  have hb143 := Nat.lt_of_lt_of_le hb81 H98.size
  have hc144 := (H98.below.cell (p := ⟨b1, 2, none⟩) hb81).trans hc82
  have hb145 := Nat.lt_of_lt_of_le hb83 H98.size
  have hc146 := (H98.below.cell (p := ⟨b1, 3, none⟩) hb83).trans hc84
  have hb147 := Nat.lt_of_lt_of_le hb85 H98.size
  have hc148 := (H98.below.cell (p := ⟨b1, 4, none⟩) hb85).trans hc86
  have hb149 := Nat.lt_of_lt_of_le hb87 H98.size
  have hc150 := (H98.below.cell (p := ⟨b1, 5, none⟩) hb87).trans hc88
  have hb151 := Nat.lt_of_lt_of_le hb89 H98.size
  have hc152 := (H98.below.cell (p := ⟨b37, 0, none⟩) hb89).trans hc90
  have hb153 := Nat.lt_of_lt_of_le hb89 H98.size
  have hc154 := (H98.below.cell (p := ⟨b37, 1, none⟩) hb89).trans hc91
  have hb155 := Nat.lt_of_lt_of_le hb89 H98.size
  have hc156 := (H98.below.cell (p := ⟨b37, 2, none⟩) hb89).trans hc92
  have hb157 := Nat.lt_of_lt_of_le hb89 H98.size
  have hc158 := (H98.below.cell (p := ⟨b37, 3, none⟩) hb89).trans hc93
  have hb159 := Nat.lt_of_lt_of_le hb89 H98.size
  have hc160 := (H98.below.cell (p := ⟨b37, 4, none⟩) hb89).trans hc94
  have hb161 := Nat.lt_of_lt_of_le hb89 H98.size
  have hc162 := (H98.below.cell (p := ⟨b37, 5, none⟩) hb89).trans hc95
  have hb163 := (H98.at_ (k := 0) rfl).rec_.1
  have hc164 := (H98.at_ (k := 0) rfl).cell 0 (u := p2) rfl
  have hc165 := (H98.at_ (k := 0) rfl).cell 1 (u := .int .i64 o2.la.n) rfl
  have hc166 := (H98.at_ (k := 0) rfl).cell 2 (u := .int .i64 o2.la.who) rfl
  have hc167 := (H98.at_ (k := 0) rfl).cell 3 (u := .int .i64 o2.la.val) rfl
  have hc168 := (H98.at_ (k := 0) rfl).cell 4 (u := q2) rfl
  have hc169 := (H98.at_ (k := 0) rfl).cell 5 (u := r2) rfl
  refine Gx.val rfl rfl rfl (val_move rfl rfl) ?_
  refine Gx.val rfl rfl rfl (val_extract rfl rfl rfl) ?_
  refine Gx.val rfl rfl rfl (val_extract rfl rfl rfl) ?_
  refine Gx.eff rfl rfl rfl (eff_alloc rfl Try.ty27 (vs := [.slice none 0 0, .int .i64 0, .int .i64 0, .int .i64 0, .slice none 0 0, .slice none 0 0]) rfl) ?_
  rintro _ _ ⟨b170, rfl, rfl⟩
  refine Gx.eff0 rfl rfl (eff_store rfl Try.ty27 rfl rfl (us := [p3, .int .i64 o3.la.n, .int .i64 o3.la.who, .int .i64 o3.la.val, q3, r3]) rfl rfl (by simp only [List.all_cons, List.all_nil, Bool.true_and, Bool.and_true, IsS.one hi3.cn.isS, IsS.one hi3.ad.isS, IsS.one hi3.go.isS] <;> rfl) (k := 0) rfl (rfl) (vs' := [p3, .int .i64 o3.la.n, .int .i64 o3.la.who, .int .i64 o3.la.val, q3, r3]) (rfl) (l' := [Hp.rec_ b170 [p3, .int .i64 o3.la.n, .int .i64 o3.la.who, .int .i64 o3.la.val, q3, r3]]) rfl) ?_
  rintro _ _ rfl
  refine Gx.val rfl rfl rfl (val_assign rfl rfl) ?_
  refine Gx.done ?_
  refine Gx.thenN ?_
  refine Gx.seq ?_
  refine Gx.seq ?_
  refine Gx.region ?_
  refine Gx.val rfl rfl rfl (val_move rfl rfl) ?_
  refine Gx.val rfl rfl rfl (Val.cast (val_loadA rfl Try.ty27 rfl rfl (us := [.slice ax1 nx1 cx1, .int .i64 a.la.n, .int .i64 a.la.who, .int .i64 a.la.val, .slice ax2 nx2 cx2, .slice ax3 nx3 cx3]) rfl (cells_cons (cell_old hb139 hc140) (cells_cons (cell_old hb141 hc142) (cells_cons (cell_old hb143 hc144) (cells_cons (cell_old hb145 hc146) (cells_cons (cell_old hb147 hc148) (cells_cons (cell_old hb149 hc150) cells_nil))))))) (v' := .agg #[.slice ax1 nx1 cx1, .int .i64 a.la.n, .int .i64 a.la.who, .int .i64 a.la.val, .slice ax2 nx2 cx2, .slice ax3 nx3 cx3]) rfl) ?_
  refine Gx.eff rfl rfl rfl (eff_callE (vs := [.int .i64 n, .agg #[.slice ax1 nx1 cx1, .int .i64 a.la.n, .int .i64 a.la.who, .int .i64 a.la.val, .slice ax2 nx2 cx2, .slice ax3 nx3 cx3]]) rfl Try.fn10 rfl (R := (fun v => ∃ bz : Bool, v = .bool bz ∧ (bz = true ↔ GoodC n a))) (fun w H => good_any (s := a.la) (hs100.below H.below) (hs101.below H.below) (hs102.below H.below))) ?_
  rintro _ _ ⟨⟨ga, rfl, hga⟩, rfl⟩
  refine Gx.val rfl rfl rfl (val_not rfl rfl) ?_
  refine Gx.done ?_
  refine Gx.thenN ?_
  refine Gx.bool rfl (fun h171 => ?_) (fun h171 => ?_)
  · refine Gx.seq ?_
    have hng : ¬ GoodC n a := fun q => by
      have h9 := hga.2 q
      have h8 := h171
      rw [h9] at h8; cases h8
    refine Gx.region ?_
    refine Gx.val rfl rfl rfl (val_move rfl rfl) ?_
    refine Gx.val rfl rfl rfl (val_neq rfl rfl rfl) ?_
    refine Gx.val rfl rfl rfl (val_move rfl rfl) ?_
    refine Gx.slot (t := 47) (v := .bool true) (look_decT rfl (fun q => hng (hk1 q).1)) ?_
    refine Gx.valg rfl rfl rfl rfl rfl (val_move rfl rfl) ?_
    refine Gx.valg rfl rfl rfl rfl rfl (val_neq rfl rfl rfl) ?_
    refine Gx.val rfl rfl rfl (val_pickT rfl rfl rfl) ?_
    refine Gx.val rfl rfl rfl (val_assign rfl rfl) ?_
    refine Gx.done ?_
    refine Gx.thenN ?_
    refine Gx.ret ?_
    refine Gx.thenR ?_
    refine Gx.ret1B hW99 Try.results3 rfl ?_
    exact congrArg Value.bool (decide_eq_true (fun q => hng (hk3 q).1))
  refine Gx.skip ?_
  refine Gx.thenN ?_
  refine Gx.seq ?_
  refine Gx.seq ?_
  have hgA : GoodC n a := hga.1 (by simpa using h171)
  have h3 := (hm3 hgA hgA).symm.trans (merge_idem hgA)
  have he3 : e3 = 0 := congrArg Prod.fst h3
  have ho3 : o3 = a := congrArg Prod.snd h3
  refine Gx.region ?_
  refine Gx.val rfl rfl rfl (val_move rfl rfl) ?_
  refine Gx.val rfl rfl rfl (val_neq rfl rfl rfl) ?_
  refine Gx.val rfl rfl rfl (val_move rfl rfl) ?_
  refine Gx.slot (t := 53) (v := .bool false) (look_decF rfl (fun q => q he3)) ?_
  refine Gx.valg rfl rfl rfl rfl rfl (Val.cast (val_loadA rfl Try.ty27 rfl rfl rfl (cells_rec (k := 0) rfl)) (v' := .agg #[p3, .int .i64 o3.la.n, .int .i64 o3.la.who, .int .i64 o3.la.val, q3, r3]) rfl) ?_
  refine Gx.valg rfl rfl rfl rfl rfl (Val.cast (val_loadA rfl Try.ty27 rfl rfl (us := [.slice ax1 nx1 cx1, .int .i64 a.la.n, .int .i64 a.la.who, .int .i64 a.la.val, .slice ax2 nx2 cx2, .slice ax3 nx3 cx3]) rfl (cells_cons (cell_old hb139 hc140) (cells_cons (cell_old hb141 hc142) (cells_cons (cell_old hb143 hc144) (cells_cons (cell_old hb145 hc146) (cells_cons (cell_old hb147 hc148) (cells_cons (cell_old hb149 hc150) cells_nil))))))) (v' := .agg #[.slice ax1 nx1 cx1, .int .i64 a.la.n, .int .i64 a.la.who, .int .i64 a.la.val, .slice ax2 nx2 cx2, .slice ax3 nx3 cx3]) rfl) ?_
  refine Gx.valg rfl rfl rfl rfl rfl (val_call (vs := [.agg #[p3, .int .i64 o3.la.n, .int .i64 o3.la.who, .int .i64 o3.la.val, q3, r3], .agg #[.slice ax1 nx1 cx1, .int .i64 a.la.n, .int .i64 a.la.who, .int .i64 a.la.val, .slice ax2 nx2 cx2, .slice ax3 nx3 cx3]]) rfl Try.fn11 rfl (fun w H => copies_any (s := o3.la) (t := a.la) (hi3.cn.below H.below) (hi3.ad.below H.below) (hi3.go.below H.below) (hs100.below H.below) (hs101.below H.below) (hs102.below H.below))) ?_
  refine Gx.valg rfl rfl rfl rfl rfl (val_notD rfl rfl) ?_
  refine Gx.val rfl rfl rfl (val_pickF rfl rfl rfl) ?_
  refine Gx.done ?_
  refine Gx.thenN ?_
  refine Gx.decF rfl (fun q => q (by rw [ho3]; exact ⟨rfl, rfl, rfl, rfl⟩)) ?_
  refine Gx.skip ?_
  refine Gx.thenN ?_
  refine Gx.seq ?_
  refine Gx.seq ?_
  refine Gx.region ?_
  refine Gx.val rfl rfl rfl (val_move rfl rfl) ?_
  refine Gx.val rfl rfl rfl (Val.cast (val_loadA rfl Try.ty27 rfl rfl (us := [.slice ay1 ny1 cy1, .int .i64 b.la.n, .int .i64 b.la.who, .int .i64 b.la.val, .slice ay2 ny2 cy2, .slice ay3 ny3 cy3]) rfl (cells_cons (cell_old hb127 hc128) (cells_cons (cell_old hb129 hc130) (cells_cons (cell_old hb131 hc132) (cells_cons (cell_old hb133 hc134) (cells_cons (cell_old hb135 hc136) (cells_cons (cell_old hb137 hc138) cells_nil))))))) (v' := .agg #[.slice ay1 ny1 cy1, .int .i64 b.la.n, .int .i64 b.la.who, .int .i64 b.la.val, .slice ay2 ny2 cy2, .slice ay3 ny3 cy3]) rfl) ?_
  refine Gx.eff rfl rfl rfl (eff_callE (vs := [.int .i64 n, .agg #[.slice ay1 ny1 cy1, .int .i64 b.la.n, .int .i64 b.la.who, .int .i64 b.la.val, .slice ay2 ny2 cy2, .slice ay3 ny3 cy3]]) rfl Try.fn10 rfl (R := (fun v => ∃ bz : Bool, v = .bool bz ∧ (bz = true ↔ GoodC n b))) (fun w H => good_any (s := b.la) (hs103.below H.below) (hs104.below H.below) (hs105.below H.below))) ?_
  rintro _ _ ⟨⟨gb, rfl, hgb⟩, rfl⟩
  refine Gx.val rfl rfl rfl (val_not rfl rfl) ?_
  refine Gx.done ?_
  refine Gx.thenN ?_
  refine Gx.bool rfl (fun h172 => ?_) (fun h172 => ?_)
  · refine Gx.seq ?_
    have hng : ¬ GoodC n b := fun q => by
      have h9 := hgb.2 q
      have h8 := h172
      rw [h9] at h8; cases h8
    refine Gx.region ?_
    refine Gx.val rfl rfl rfl (val_move rfl rfl) ?_
    refine Gx.val rfl rfl rfl (val_neq rfl rfl rfl) ?_
    refine Gx.val rfl rfl rfl (val_assign rfl rfl) ?_
    refine Gx.done ?_
    refine Gx.thenN ?_
    refine Gx.ret ?_
    refine Gx.thenR ?_
    refine Gx.ret1B hW99 Try.results3 rfl ?_
    exact congrArg Value.bool (decide_eq_true (fun q => hng (hk1 q).2))
  refine Gx.skip ?_
  refine Gx.thenN ?_
  refine Gx.seq ?_
  refine Gx.seq ?_
  have hgB : GoodC n b := hgb.1 (by simpa using h172)
  have h12 := ((hm1 hgA hgB).symm.trans (merge_comm a b)).trans (hm2 hgB hgA)
  have he12 : e1 = e2 := congrArg Prod.fst h12
  have ho12 : o1 = o2 := congrArg Prod.snd h12
  refine Gx.region ?_
  refine Gx.val rfl rfl rfl (val_move rfl rfl) ?_
  refine Gx.val rfl rfl rfl (val_move rfl rfl) ?_
  refine Gx.val rfl rfl rfl (val_neq rfl rfl rfl) ?_
  refine Gx.val rfl rfl rfl (val_move rfl rfl) ?_
  refine Gx.slot (t := 68) (v := .bool false) (look_decF rfl (fun q => q he12)) ?_
  refine Gx.valg rfl rfl rfl rfl rfl (Val.cast (val_loadA rfl Try.ty27 rfl rfl (us := [p1, .int .i64 o1.la.n, .int .i64 o1.la.who, .int .i64 o1.la.val, q1, r1]) rfl (cells_cons (cell_old hb151 hc152) (cells_cons (cell_old hb153 hc154) (cells_cons (cell_old hb155 hc156) (cells_cons (cell_old hb157 hc158) (cells_cons (cell_old hb159 hc160) (cells_cons (cell_old hb161 hc162) cells_nil))))))) (v' := .agg #[p1, .int .i64 o1.la.n, .int .i64 o1.la.who, .int .i64 o1.la.val, q1, r1]) rfl) ?_
  refine Gx.valg rfl rfl rfl rfl rfl (Val.cast (val_loadA rfl Try.ty27 rfl rfl (us := [p2, .int .i64 o2.la.n, .int .i64 o2.la.who, .int .i64 o2.la.val, q2, r2]) rfl (cells_cons (cell_old hb163 hc164) (cells_cons (cell_old hb163 hc165) (cells_cons (cell_old hb163 hc166) (cells_cons (cell_old hb163 hc167) (cells_cons (cell_old hb163 hc168) (cells_cons (cell_old hb163 hc169) cells_nil))))))) (v' := .agg #[p2, .int .i64 o2.la.n, .int .i64 o2.la.who, .int .i64 o2.la.val, q2, r2]) rfl) ?_
  refine Gx.valg rfl rfl rfl rfl rfl (val_call (vs := [.agg #[p1, .int .i64 o1.la.n, .int .i64 o1.la.who, .int .i64 o1.la.val, q1, r1], .agg #[p2, .int .i64 o2.la.n, .int .i64 o2.la.who, .int .i64 o2.la.val, q2, r2]]) rfl Try.fn11 rfl (fun w H => copies_any (s := o1.la) (t := o2.la) (hs109.below H.below) (hs110.below H.below) (hs111.below H.below) (hs112.below H.below) (hs113.below H.below) (hs114.below H.below))) ?_
  refine Gx.valg rfl rfl rfl rfl rfl (val_notD rfl rfl) ?_
  refine Gx.val rfl rfl rfl (val_pickF rfl rfl rfl) ?_
  refine Gx.done ?_
  refine Gx.thenN ?_
  refine Gx.decF rfl (fun q => q (by rw [ho12]; exact ⟨rfl, rfl, rfl, rfl⟩)) ?_
  refine Gx.skip ?_
  refine Gx.thenN ?_
  refine Gx.seq ?_
  refine Gx.region ?_
  refine Gx.val rfl rfl rfl (val_move rfl rfl) ?_
  refine Gx.val rfl rfl rfl (Val.cast (val_loadA rfl Try.ty27 rfl rfl (us := [.slice ay1 ny1 cy1, .int .i64 b.la.n, .int .i64 b.la.who, .int .i64 b.la.val, .slice ay2 ny2 cy2, .slice ay3 ny3 cy3]) rfl (cells_cons (cell_old hb127 hc128) (cells_cons (cell_old hb129 hc130) (cells_cons (cell_old hb131 hc132) (cells_cons (cell_old hb133 hc134) (cells_cons (cell_old hb135 hc136) (cells_cons (cell_old hb137 hc138) cells_nil))))))) (v' := .agg #[.slice ay1 ny1 cy1, .int .i64 b.la.n, .int .i64 b.la.who, .int .i64 b.la.val, .slice ay2 ny2 cy2, .slice ay3 ny3 cy3]) rfl) ?_
  refine Gx.val rfl rfl rfl (Val.cast (val_loadA rfl Try.ty27 rfl rfl (us := [.slice az1 nz1 cz1, .int .i64 c.la.n, .int .i64 c.la.who, .int .i64 c.la.val, .slice az2 nz2 cz2, .slice az3 nz3 cz3]) rfl (cells_cons (cell_old hb115 hc116) (cells_cons (cell_old hb117 hc118) (cells_cons (cell_old hb119 hc120) (cells_cons (cell_old hb121 hc122) (cells_cons (cell_old hb123 hc124) (cells_cons (cell_old hb125 hc126) cells_nil))))))) (v' := .agg #[.slice az1 nz1 cz1, .int .i64 c.la.n, .int .i64 c.la.who, .int .i64 c.la.val, .slice az2 nz2 cz2, .slice az3 nz3 cz3]) rfl) ?_
  refine Gx.callB rfl rfl rfl (vs := [.int .i64 n, .agg #[.slice ay1 ny1 cy1, .int .i64 b.la.n, .int .i64 b.la.who, .int .i64 b.la.val, .slice ay2 ny2 cy2, .slice ay3 ny3 cy3], .agg #[.slice az1 nz1 cz1, .int .i64 c.la.n, .int .i64 c.la.who, .int .i64 c.la.val, .slice az2 nz2 cz2, .slice az3 nz3 cz3]]) rfl Try.fn9 rfl (R := (fun u w' => ∃ (p q r : Value) (code : Int) (o : Cp), u = .tuple #[.agg #[p, .int .i64 o.la.n, .int .i64 o.la.who, .int .i64 o.la.val, q, r], .int .i64 code] ∧ InM w' p q r o ∧ (code = 0 → GoodC n b ∧ GoodC n c) ∧ (GoodC n b → GoodC n c → mergeC b c = (code, o)) ∧ FineC o)) (fun w H => mg_new (n := n) (a := b) (b := c) ⟨hs103.below H.below, hs104.below H.below, hs105.below H.below⟩ ⟨hs106.below H.below, hs107.below H.below, hs108.below H.below⟩ hrab hrgb hrac hrgc) ?_
  rintro _ W173 ⟨p4, q4, r4, e4, o4, rfl, hi4, hk4, hm4, hf4⟩ H174
  have hW175 := hW99.trans (H174.below.mono hW99.size)
  have hs176 := hs100.below H174.below
  have hs177 := hs101.below H174.below
  have hs178 := hs102.below H174.below
  have hs179 := hs103.below H174.below
  have hs180 := hs104.below H174.below
  have hs181 := hs105.below H174.below
  have hs182 := hs106.below H174.below
  have hs183 := hs107.below H174.below
  have hs184 := hs108.below H174.below
  have hs185 := hs109.below H174.below
  have hs186 := hs110.below H174.below
  have hs187 := hs111.below H174.below
  have hs188 := hs112.below H174.below
  have hs189 := hs113.below H174.below
  have hs190 := hs114.below H174.below
  have hs191 := hi3.cn.below H174.below
  have hs192 := hi3.ad.below H174.below
  have hs193 := hi3.go.below H174.below
  have hb194 := Nat.lt_of_lt_of_le hb115 H174.size
  have hc195 := (H174.below.cell (p := ⟨b3, 0, none⟩) hb115).trans hc116
  have hb196 := Nat.lt_of_lt_of_le hb117 H174.size
  have hc197 := (H174.below.cell (p := ⟨b3, 1, none⟩) hb117).trans hc118
  have hb198 := Nat.lt_of_lt_of_le hb119 H174.size
  have hc199 := (H174.below.cell (p := ⟨b3, 2, none⟩) hb119).trans hc120
  have hb200 := Nat.lt_of_lt_of_le hb121 H174.size
  have hc201 := (H174.below.cell (p := ⟨b3, 3, none⟩) hb121).trans hc122
  have hb202 := Nat.lt_of_lt_of_le hb123 H174.size
  have hc203 := (H174.below.cell (p := ⟨b3, 4, none⟩) hb123).trans hc124
  have hb204 := Nat.lt_of_lt_of_le hb125 H174.size
  have hc205 := (H174.below.cell (p := ⟨b3, 5, none⟩) hb125).trans hc126
  have hb206 := Nat.lt_of_lt_of_le hb127 H174.size
  have hc207 := (H174.below.cell (p := ⟨b2, 0, none⟩) hb127).trans hc128
  have hb208 := Nat.lt_of_lt_of_le hb129 H174.size
  have hc209 := (H174.below.cell (p := ⟨b2, 1, none⟩) hb129).trans hc130
  have hb210 := Nat.lt_of_lt_of_le hb131 H174.size
  have hc211 := (H174.below.cell (p := ⟨b2, 2, none⟩) hb131).trans hc132
  have hb212 := Nat.lt_of_lt_of_le hb133 H174.size
  have hc213 := (H174.below.cell (p := ⟨b2, 3, none⟩) hb133).trans hc134
  have hb214 := Nat.lt_of_lt_of_le hb135 H174.size
  have hc215 := (H174.below.cell (p := ⟨b2, 4, none⟩) hb135).trans hc136
  have hb216 := Nat.lt_of_lt_of_le hb137 H174.size
  have hc217 := (H174.below.cell (p := ⟨b2, 5, none⟩) hb137).trans hc138
  have hb218 := Nat.lt_of_lt_of_le hb139 H174.size
  have hc219 := (H174.below.cell (p := ⟨b1, 0, none⟩) hb139).trans hc140
  have hb220 := Nat.lt_of_lt_of_le hb141 H174.size
  have hc221 := (H174.below.cell (p := ⟨b1, 1, none⟩) hb141).trans hc142
  have hb222 := Nat.lt_of_lt_of_le hb143 H174.size
  have hc223 := (H174.below.cell (p := ⟨b1, 2, none⟩) hb143).trans hc144
  have hb224 := Nat.lt_of_lt_of_le hb145 H174.size
  have hc225 := (H174.below.cell (p := ⟨b1, 3, none⟩) hb145).trans hc146
  have hb226 := Nat.lt_of_lt_of_le hb147 H174.size
  have hc227 := (H174.below.cell (p := ⟨b1, 4, none⟩) hb147).trans hc148
  have hb228 := Nat.lt_of_lt_of_le hb149 H174.size
  have hc229 := (H174.below.cell (p := ⟨b1, 5, none⟩) hb149).trans hc150
  have hb230 := Nat.lt_of_lt_of_le hb151 H174.size
  have hc231 := (H174.below.cell (p := ⟨b37, 0, none⟩) hb151).trans hc152
  have hb232 := Nat.lt_of_lt_of_le hb153 H174.size
  have hc233 := (H174.below.cell (p := ⟨b37, 1, none⟩) hb153).trans hc154
  have hb234 := Nat.lt_of_lt_of_le hb155 H174.size
  have hc235 := (H174.below.cell (p := ⟨b37, 2, none⟩) hb155).trans hc156
  have hb236 := Nat.lt_of_lt_of_le hb157 H174.size
  have hc237 := (H174.below.cell (p := ⟨b37, 3, none⟩) hb157).trans hc158
  have hb238 := Nat.lt_of_lt_of_le hb159 H174.size
  have hc239 := (H174.below.cell (p := ⟨b37, 4, none⟩) hb159).trans hc160
  have hb240 := Nat.lt_of_lt_of_le hb161 H174.size
  have hc241 := (H174.below.cell (p := ⟨b37, 5, none⟩) hb161).trans hc162
  have hb242 := Nat.lt_of_lt_of_le hb163 H174.size
  have hc243 := (H174.below.cell (p := ⟨b96, 0, none⟩) hb163).trans hc164
  have hb244 := Nat.lt_of_lt_of_le hb163 H174.size
  have hc245 := (H174.below.cell (p := ⟨b96, 1, none⟩) hb163).trans hc165
  have hb246 := Nat.lt_of_lt_of_le hb163 H174.size
  have hc247 := (H174.below.cell (p := ⟨b96, 2, none⟩) hb163).trans hc166
  have hb248 := Nat.lt_of_lt_of_le hb163 H174.size
  have hc249 := (H174.below.cell (p := ⟨b96, 3, none⟩) hb163).trans hc167
  have hb250 := Nat.lt_of_lt_of_le hb163 H174.size
  have hc251 := (H174.below.cell (p := ⟨b96, 4, none⟩) hb163).trans hc168
  have hb252 := Nat.lt_of_lt_of_le hb163 H174.size
  have hc253 := (H174.below.cell (p := ⟨b96, 5, none⟩) hb163).trans hc169
  have hb254 := (H174.at_ (k := 0) rfl).rec_.1
  have hc255 := (H174.at_ (k := 0) rfl).cell 0 (u := p3) rfl
  have hc256 := (H174.at_ (k := 0) rfl).cell 1 (u := .int .i64 o3.la.n) rfl
  have hc257 := (H174.at_ (k := 0) rfl).cell 2 (u := .int .i64 o3.la.who) rfl
  have hc258 := (H174.at_ (k := 0) rfl).cell 3 (u := .int .i64 o3.la.val) rfl
  have hc259 := (H174.at_ (k := 0) rfl).cell 4 (u := q3) rfl
  have hc260 := (H174.at_ (k := 0) rfl).cell 5 (u := r3) rfl
  refine Gx.val rfl rfl rfl (val_move rfl rfl) ?_
  refine Gx.val rfl rfl rfl (val_extract rfl rfl rfl) ?_
  refine Gx.val rfl rfl rfl (val_extract rfl rfl rfl) ?_
  refine Gx.eff rfl rfl rfl (eff_alloc rfl Try.ty27 (vs := [.slice none 0 0, .int .i64 0, .int .i64 0, .int .i64 0, .slice none 0 0, .slice none 0 0]) rfl) ?_
  rintro _ _ ⟨b261, rfl, rfl⟩
  refine Gx.eff0 rfl rfl (eff_store rfl Try.ty27 rfl rfl (us := [p4, .int .i64 o4.la.n, .int .i64 o4.la.who, .int .i64 o4.la.val, q4, r4]) rfl rfl (by simp only [List.all_cons, List.all_nil, Bool.true_and, Bool.and_true, IsS.one hi4.cn.isS, IsS.one hi4.ad.isS, IsS.one hi4.go.isS] <;> rfl) (k := 0) rfl (rfl) (vs' := [p4, .int .i64 o4.la.n, .int .i64 o4.la.who, .int .i64 o4.la.val, q4, r4]) (rfl) (l' := [Hp.rec_ b261 [p4, .int .i64 o4.la.n, .int .i64 o4.la.who, .int .i64 o4.la.val, q4, r4]]) rfl) ?_
  rintro _ _ rfl
  refine Gx.val rfl rfl rfl (val_assign rfl rfl) ?_
  refine Gx.done ?_
  refine Gx.thenN ?_
  refine Gx.seq ?_
  refine Gx.seq ?_
  refine Gx.region ?_
  refine Gx.val rfl rfl rfl (val_move rfl rfl) ?_
  refine Gx.val rfl rfl rfl (val_neq rfl rfl rfl) ?_
  refine Gx.val rfl rfl rfl (val_move rfl rfl) ?_
  refine Gx.cases (t := 83) rfl (fun h262 => ?_) (fun h262 => ?_)
  · refine Gx.skipg rfl rfl rfl rfl rfl rfl ?_
    refine Gx.skipg rfl rfl rfl rfl rfl rfl ?_
    refine Gx.val rfl rfl rfl (val_pickT rfl rfl rfl) ?_
    refine Gx.done ?_
    refine Gx.thenN ?_
    refine Gx.t rfl ?_
    refine Gx.seq ?_
    refine Gx.region ?_
    refine Gx.val rfl rfl rfl (val_assign rfl rfl) ?_
    refine Gx.done ?_
    refine Gx.thenN ?_
    refine Gx.ret ?_
    refine Gx.thenR ?_
    refine Gx.ret1B hW175 Try.results3 rfl ?_
    rfl
  refine Gx.valg rfl rfl rfl rfl rfl (val_move rfl rfl) ?_
  refine Gx.valg rfl rfl rfl rfl rfl (val_neq rfl rfl rfl) ?_
  refine Gx.val rfl rfl rfl (val_pickF rfl rfl rfl) ?_
  refine Gx.done ?_
  refine Gx.thenN ?_
  refine Gx.dec rfl (fun h263 => ?_) (fun h263 => ?_)
  · refine Gx.seq ?_
    refine Gx.region ?_
    refine Gx.val rfl rfl rfl (val_assign rfl rfl) ?_
    refine Gx.done ?_
    refine Gx.thenN ?_
    refine Gx.ret ?_
    refine Gx.thenR ?_
    refine Gx.ret1B hW175 Try.results3 rfl ?_
    rfl
  refine Gx.skip ?_
  refine Gx.thenN ?_
  refine Gx.seq ?_
  have he1 : e1 = 0 := Classical.not_not.1 h262
  have he4 : e4 = 0 := Classical.not_not.1 h263
  have hgC : GoodC n c := (hk4 he4).2
  have h1 := hm1 hgA hgB
  have h4 := hm4 hgB hgC
  have hz1 : (mergeC a b).1 = 0 := by rw [h1]; exact he1
  have hz4 : (mergeC b c).1 = 0 := by rw [h4]; exact he4
  have ho1 : o1 = mrg a b := by have h9 := (merge_parts hz1).1; rw [h1] at h9; exact congrArg Prod.snd h9
  have ho4 : o4 = mrg b c := by have h9 := (merge_parts hz4).1; rw [h4] at h9; exact congrArg Prod.snd h9
  have hg1 : GoodC n o1 := by rw [ho1]; exact good_mrg hgA hgB hz1
  have hg4 : GoodC n o4 := by rw [ho4]; exact good_mrg hgB hgC hz4
  refine Gx.region ?_
  refine Gx.val rfl rfl rfl (val_move rfl rfl) ?_
  refine Gx.val rfl rfl rfl (Val.cast (val_loadA rfl Try.ty27 rfl rfl (us := [p1, .int .i64 o1.la.n, .int .i64 o1.la.who, .int .i64 o1.la.val, q1, r1]) rfl (cells_cons (cell_old hb230 hc231) (cells_cons (cell_old hb232 hc233) (cells_cons (cell_old hb234 hc235) (cells_cons (cell_old hb236 hc237) (cells_cons (cell_old hb238 hc239) (cells_cons (cell_old hb240 hc241) cells_nil))))))) (v' := .agg #[p1, .int .i64 o1.la.n, .int .i64 o1.la.who, .int .i64 o1.la.val, q1, r1]) rfl) ?_
  refine Gx.val rfl rfl rfl (Val.cast (val_loadA rfl Try.ty27 rfl rfl (us := [.slice az1 nz1 cz1, .int .i64 c.la.n, .int .i64 c.la.who, .int .i64 c.la.val, .slice az2 nz2 cz2, .slice az3 nz3 cz3]) rfl (cells_cons (cell_old hb194 hc195) (cells_cons (cell_old hb196 hc197) (cells_cons (cell_old hb198 hc199) (cells_cons (cell_old hb200 hc201) (cells_cons (cell_old hb202 hc203) (cells_cons (cell_old hb204 hc205) cells_nil))))))) (v' := .agg #[.slice az1 nz1 cz1, .int .i64 c.la.n, .int .i64 c.la.who, .int .i64 c.la.val, .slice az2 nz2 cz2, .slice az3 nz3 cz3]) rfl) ?_
  refine Gx.callB rfl rfl rfl (vs := [.int .i64 n, .agg #[p1, .int .i64 o1.la.n, .int .i64 o1.la.who, .int .i64 o1.la.val, q1, r1], .agg #[.slice az1 nz1 cz1, .int .i64 c.la.n, .int .i64 c.la.who, .int .i64 c.la.val, .slice az2 nz2 cz2, .slice az3 nz3 cz3]]) rfl Try.fn9 rfl (R := (fun u w' => ∃ (p q r : Value) (code : Int) (o : Cp), u = .tuple #[.agg #[p, .int .i64 o.la.n, .int .i64 o.la.who, .int .i64 o.la.val, q, r], .int .i64 code] ∧ InM w' p q r o ∧ (code = 0 → GoodC n o1 ∧ GoodC n c) ∧ (GoodC n o1 → GoodC n c → mergeC o1 c = (code, o)) ∧ FineC o)) (fun w H => mg_new (n := n) (a := o1) (b := c) ⟨hs185.below H.below, hs186.below H.below, hs187.below H.below⟩ ⟨hs182.below H.below, hs183.below H.below, hs184.below H.below⟩ hf1.ar hf1.gr hrac hrgc) ?_
  rintro _ W264 ⟨p5, q5, r5, e5, o5, rfl, hi5, hk5, hm5, hf5⟩ H265
  have hW266 := hW175.trans (H265.below.mono hW175.size)
  have hs267 := hs176.below H265.below
  have hs268 := hs177.below H265.below
  have hs269 := hs178.below H265.below
  have hs270 := hs179.below H265.below
  have hs271 := hs180.below H265.below
  have hs272 := hs181.below H265.below
  have hs273 := hs182.below H265.below
  have hs274 := hs183.below H265.below
  have hs275 := hs184.below H265.below
  have hs276 := hs185.below H265.below
  have hs277 := hs186.below H265.below
  have hs278 := hs187.below H265.below
  have hs279 := hs188.below H265.below
  have hs280 := hs189.below H265.below
  have hs281 := hs190.below H265.below
  have hs282 := hs191.below H265.below
  have hs283 := hs192.below H265.below
  have hs284 := hs193.below H265.below
  have hs285 := hi4.cn.below H265.below
  have hs286 := hi4.ad.below H265.below
  have hs287 := hi4.go.below H265.below
  have hb288 := Nat.lt_of_lt_of_le hb194 H265.size
  have hc289 := (H265.below.cell (p := ⟨b3, 0, none⟩) hb194).trans hc195
  have hb290 := Nat.lt_of_lt_of_le hb196 H265.size
  have hc291 := (H265.below.cell (p := ⟨b3, 1, none⟩) hb196).trans hc197
  have hb292 := Nat.lt_of_lt_of_le hb198 H265.size
  have hc293 := (H265.below.cell (p := ⟨b3, 2, none⟩) hb198).trans hc199
  have hb294 := Nat.lt_of_lt_of_le hb200 H265.size
  have hc295 := (H265.below.cell (p := ⟨b3, 3, none⟩) hb200).trans hc201
  have hb296 := Nat.lt_of_lt_of_le hb202 H265.size
  have hc297 := (H265.below.cell (p := ⟨b3, 4, none⟩) hb202).trans hc203
  have hb298 := Nat.lt_of_lt_of_le hb204 H265.size
  have hc299 := (H265.below.cell (p := ⟨b3, 5, none⟩) hb204).trans hc205
  have hb300 := Nat.lt_of_lt_of_le hb206 H265.size
  have hc301 := (H265.below.cell (p := ⟨b2, 0, none⟩) hb206).trans hc207
  have hb302 := Nat.lt_of_lt_of_le hb208 H265.size
  have hc303 := (H265.below.cell (p := ⟨b2, 1, none⟩) hb208).trans hc209
  have hb304 := Nat.lt_of_lt_of_le hb210 H265.size
  have hc305 := (H265.below.cell (p := ⟨b2, 2, none⟩) hb210).trans hc211
  have hb306 := Nat.lt_of_lt_of_le hb212 H265.size
  have hc307 := (H265.below.cell (p := ⟨b2, 3, none⟩) hb212).trans hc213
  have hb308 := Nat.lt_of_lt_of_le hb214 H265.size
  have hc309 := (H265.below.cell (p := ⟨b2, 4, none⟩) hb214).trans hc215
  have hb310 := Nat.lt_of_lt_of_le hb216 H265.size
  have hc311 := (H265.below.cell (p := ⟨b2, 5, none⟩) hb216).trans hc217
  have hb312 := Nat.lt_of_lt_of_le hb218 H265.size
  have hc313 := (H265.below.cell (p := ⟨b1, 0, none⟩) hb218).trans hc219
  have hb314 := Nat.lt_of_lt_of_le hb220 H265.size
  have hc315 := (H265.below.cell (p := ⟨b1, 1, none⟩) hb220).trans hc221
  have hb316 := Nat.lt_of_lt_of_le hb222 H265.size
  have hc317 := (H265.below.cell (p := ⟨b1, 2, none⟩) hb222).trans hc223
  have hb318 := Nat.lt_of_lt_of_le hb224 H265.size
  have hc319 := (H265.below.cell (p := ⟨b1, 3, none⟩) hb224).trans hc225
  have hb320 := Nat.lt_of_lt_of_le hb226 H265.size
  have hc321 := (H265.below.cell (p := ⟨b1, 4, none⟩) hb226).trans hc227
  have hb322 := Nat.lt_of_lt_of_le hb228 H265.size
  have hc323 := (H265.below.cell (p := ⟨b1, 5, none⟩) hb228).trans hc229
  have hb324 := Nat.lt_of_lt_of_le hb230 H265.size
  have hc325 := (H265.below.cell (p := ⟨b37, 0, none⟩) hb230).trans hc231
  have hb326 := Nat.lt_of_lt_of_le hb232 H265.size
  have hc327 := (H265.below.cell (p := ⟨b37, 1, none⟩) hb232).trans hc233
  have hb328 := Nat.lt_of_lt_of_le hb234 H265.size
  have hc329 := (H265.below.cell (p := ⟨b37, 2, none⟩) hb234).trans hc235
  have hb330 := Nat.lt_of_lt_of_le hb236 H265.size
  have hc331 := (H265.below.cell (p := ⟨b37, 3, none⟩) hb236).trans hc237
  have hb332 := Nat.lt_of_lt_of_le hb238 H265.size
  have hc333 := (H265.below.cell (p := ⟨b37, 4, none⟩) hb238).trans hc239
  have hb334 := Nat.lt_of_lt_of_le hb240 H265.size
  have hc335 := (H265.below.cell (p := ⟨b37, 5, none⟩) hb240).trans hc241
  have hb336 := Nat.lt_of_lt_of_le hb242 H265.size
  have hc337 := (H265.below.cell (p := ⟨b96, 0, none⟩) hb242).trans hc243
  have hb338 := Nat.lt_of_lt_of_le hb244 H265.size
  have hc339 := (H265.below.cell (p := ⟨b96, 1, none⟩) hb244).trans hc245
  have hb340 := Nat.lt_of_lt_of_le hb246 H265.size
  have hc341 := (H265.below.cell (p := ⟨b96, 2, none⟩) hb246).trans hc247
  have hb342 := Nat.lt_of_lt_of_le hb248 H265.size
  have hc343 := (H265.below.cell (p := ⟨b96, 3, none⟩) hb248).trans hc249
  have hb344 := Nat.lt_of_lt_of_le hb250 H265.size
  have hc345 := (H265.below.cell (p := ⟨b96, 4, none⟩) hb250).trans hc251
  have hb346 := Nat.lt_of_lt_of_le hb252 H265.size
  have hc347 := (H265.below.cell (p := ⟨b96, 5, none⟩) hb252).trans hc253
  have hb348 := Nat.lt_of_lt_of_le hb254 H265.size
  have hc349 := (H265.below.cell (p := ⟨b170, 0, none⟩) hb254).trans hc255
  have hb350 := Nat.lt_of_lt_of_le hb254 H265.size
  have hc351 := (H265.below.cell (p := ⟨b170, 1, none⟩) hb254).trans hc256
  have hb352 := Nat.lt_of_lt_of_le hb254 H265.size
  have hc353 := (H265.below.cell (p := ⟨b170, 2, none⟩) hb254).trans hc257
  have hb354 := Nat.lt_of_lt_of_le hb254 H265.size
  have hc355 := (H265.below.cell (p := ⟨b170, 3, none⟩) hb254).trans hc258
  have hb356 := Nat.lt_of_lt_of_le hb254 H265.size
  have hc357 := (H265.below.cell (p := ⟨b170, 4, none⟩) hb254).trans hc259
  have hb358 := Nat.lt_of_lt_of_le hb254 H265.size
  have hc359 := (H265.below.cell (p := ⟨b170, 5, none⟩) hb254).trans hc260
  have hb360 := (H265.at_ (k := 0) rfl).rec_.1
  have hc361 := (H265.at_ (k := 0) rfl).cell 0 (u := p4) rfl
  have hc362 := (H265.at_ (k := 0) rfl).cell 1 (u := .int .i64 o4.la.n) rfl
  have hc363 := (H265.at_ (k := 0) rfl).cell 2 (u := .int .i64 o4.la.who) rfl
  have hc364 := (H265.at_ (k := 0) rfl).cell 3 (u := .int .i64 o4.la.val) rfl
  have hc365 := (H265.at_ (k := 0) rfl).cell 4 (u := q4) rfl
  have hc366 := (H265.at_ (k := 0) rfl).cell 5 (u := r4) rfl
  refine Gx.val rfl rfl rfl (val_move rfl rfl) ?_
  refine Gx.val rfl rfl rfl (val_extract rfl rfl rfl) ?_
  refine Gx.val rfl rfl rfl (val_extract rfl rfl rfl) ?_
  refine Gx.eff rfl rfl rfl (eff_alloc rfl Try.ty27 (vs := [.slice none 0 0, .int .i64 0, .int .i64 0, .int .i64 0, .slice none 0 0, .slice none 0 0]) rfl) ?_
  rintro _ _ ⟨b367, rfl, rfl⟩
  refine Gx.eff0 rfl rfl (eff_store rfl Try.ty27 rfl rfl (us := [p5, .int .i64 o5.la.n, .int .i64 o5.la.who, .int .i64 o5.la.val, q5, r5]) rfl rfl (by simp only [List.all_cons, List.all_nil, Bool.true_and, Bool.and_true, IsS.one hi5.cn.isS, IsS.one hi5.ad.isS, IsS.one hi5.go.isS] <;> rfl) (k := 0) rfl (rfl) (vs' := [p5, .int .i64 o5.la.n, .int .i64 o5.la.who, .int .i64 o5.la.val, q5, r5]) (rfl) (l' := [Hp.rec_ b367 [p5, .int .i64 o5.la.n, .int .i64 o5.la.who, .int .i64 o5.la.val, q5, r5]]) rfl) ?_
  rintro _ _ rfl
  refine Gx.val rfl rfl rfl (val_assign rfl rfl) ?_
  refine Gx.done ?_
  refine Gx.thenN ?_
  refine Gx.seq ?_
  refine Gx.region ?_
  refine Gx.val rfl rfl rfl (val_move rfl rfl) ?_
  refine Gx.val rfl rfl rfl (Val.cast (val_loadA rfl Try.ty27 rfl rfl (us := [.slice ax1 nx1 cx1, .int .i64 a.la.n, .int .i64 a.la.who, .int .i64 a.la.val, .slice ax2 nx2 cx2, .slice ax3 nx3 cx3]) rfl (cells_cons (cell_old hb312 hc313) (cells_cons (cell_old hb314 hc315) (cells_cons (cell_old hb316 hc317) (cells_cons (cell_old hb318 hc319) (cells_cons (cell_old hb320 hc321) (cells_cons (cell_old hb322 hc323) cells_nil))))))) (v' := .agg #[.slice ax1 nx1 cx1, .int .i64 a.la.n, .int .i64 a.la.who, .int .i64 a.la.val, .slice ax2 nx2 cx2, .slice ax3 nx3 cx3]) rfl) ?_
  refine Gx.val rfl rfl rfl (Val.cast (val_loadA rfl Try.ty27 rfl rfl (us := [p4, .int .i64 o4.la.n, .int .i64 o4.la.who, .int .i64 o4.la.val, q4, r4]) rfl (cells_cons (cell_old hb360 hc361) (cells_cons (cell_old hb360 hc362) (cells_cons (cell_old hb360 hc363) (cells_cons (cell_old hb360 hc364) (cells_cons (cell_old hb360 hc365) (cells_cons (cell_old hb360 hc366) cells_nil))))))) (v' := .agg #[p4, .int .i64 o4.la.n, .int .i64 o4.la.who, .int .i64 o4.la.val, q4, r4]) rfl) ?_
  refine Gx.callB rfl rfl rfl (vs := [.int .i64 n, .agg #[.slice ax1 nx1 cx1, .int .i64 a.la.n, .int .i64 a.la.who, .int .i64 a.la.val, .slice ax2 nx2 cx2, .slice ax3 nx3 cx3], .agg #[p4, .int .i64 o4.la.n, .int .i64 o4.la.who, .int .i64 o4.la.val, q4, r4]]) rfl Try.fn9 rfl (R := (fun u w' => ∃ (p q r : Value) (code : Int) (o : Cp), u = .tuple #[.agg #[p, .int .i64 o.la.n, .int .i64 o.la.who, .int .i64 o.la.val, q, r], .int .i64 code] ∧ InM w' p q r o ∧ (code = 0 → GoodC n a ∧ GoodC n o4) ∧ (GoodC n a → GoodC n o4 → mergeC a o4 = (code, o)) ∧ FineC o)) (fun w H => mg_new (n := n) (a := a) (b := o4) ⟨hs267.below H.below, hs268.below H.below, hs269.below H.below⟩ ⟨hs285.below H.below, hs286.below H.below, hs287.below H.below⟩ hraa hrga hf4.ar hf4.gr) ?_
  rintro _ W368 ⟨p6, q6, r6, e6, o6, rfl, hi6, hk6, hm6, hf6⟩ H369
  have hW370 := hW266.trans (H369.below.mono hW266.size)
  have hs371 := hs267.below H369.below
  have hs372 := hs268.below H369.below
  have hs373 := hs269.below H369.below
  have hs374 := hs270.below H369.below
  have hs375 := hs271.below H369.below
  have hs376 := hs272.below H369.below
  have hs377 := hs273.below H369.below
  have hs378 := hs274.below H369.below
  have hs379 := hs275.below H369.below
  have hs380 := hs276.below H369.below
  have hs381 := hs277.below H369.below
  have hs382 := hs278.below H369.below
  have hs383 := hs279.below H369.below
  have hs384 := hs280.below H369.below
  have hs385 := hs281.below H369.below
  have hs386 := hs282.below H369.below
  have hs387 := hs283.below H369.below
  have hs388 := hs284.below H369.below
  have hs389 := hs285.below H369.below
  have hs390 := hs286.below H369.below
  have hs391 := hs287.below H369.below
  have hs392 := hi5.cn.below H369.below
  have hs393 := hi5.ad.below H369.below
  have hs394 := hi5.go.below H369.below
  have hb395 := Nat.lt_of_lt_of_le hb288 H369.size
  have hc396 := (H369.below.cell (p := ⟨b3, 0, none⟩) hb288).trans hc289
  have hb397 := Nat.lt_of_lt_of_le hb290 H369.size
  have hc398 := (H369.below.cell (p := ⟨b3, 1, none⟩) hb290).trans hc291
  have hb399 := Nat.lt_of_lt_of_le hb292 H369.size
  have hc400 := (H369.below.cell (p := ⟨b3, 2, none⟩) hb292).trans hc293
  have hb401 := Nat.lt_of_lt_of_le hb294 H369.size
  have hc402 := (H369.below.cell (p := ⟨b3, 3, none⟩) hb294).trans hc295
  have hb403 := Nat.lt_of_lt_of_le hb296 H369.size
  have hc404 := (H369.below.cell (p := ⟨b3, 4, none⟩) hb296).trans hc297
  have hb405 := Nat.lt_of_lt_of_le hb298 H369.size
  have hc406 := (H369.below.cell (p := ⟨b3, 5, none⟩) hb298).trans hc299
  have hb407 := Nat.lt_of_lt_of_le hb300 H369.size
  have hc408 := (H369.below.cell (p := ⟨b2, 0, none⟩) hb300).trans hc301
  have hb409 := Nat.lt_of_lt_of_le hb302 H369.size
  have hc410 := (H369.below.cell (p := ⟨b2, 1, none⟩) hb302).trans hc303
  have hb411 := Nat.lt_of_lt_of_le hb304 H369.size
  have hc412 := (H369.below.cell (p := ⟨b2, 2, none⟩) hb304).trans hc305
  have hb413 := Nat.lt_of_lt_of_le hb306 H369.size
  have hc414 := (H369.below.cell (p := ⟨b2, 3, none⟩) hb306).trans hc307
  have hb415 := Nat.lt_of_lt_of_le hb308 H369.size
  have hc416 := (H369.below.cell (p := ⟨b2, 4, none⟩) hb308).trans hc309
  have hb417 := Nat.lt_of_lt_of_le hb310 H369.size
  have hc418 := (H369.below.cell (p := ⟨b2, 5, none⟩) hb310).trans hc311
  have hb419 := Nat.lt_of_lt_of_le hb312 H369.size
  have hc420 := (H369.below.cell (p := ⟨b1, 0, none⟩) hb312).trans hc313
  have hb421 := Nat.lt_of_lt_of_le hb314 H369.size
  have hc422 := (H369.below.cell (p := ⟨b1, 1, none⟩) hb314).trans hc315
  have hb423 := Nat.lt_of_lt_of_le hb316 H369.size
  have hc424 := (H369.below.cell (p := ⟨b1, 2, none⟩) hb316).trans hc317
  have hb425 := Nat.lt_of_lt_of_le hb318 H369.size
  have hc426 := (H369.below.cell (p := ⟨b1, 3, none⟩) hb318).trans hc319
  have hb427 := Nat.lt_of_lt_of_le hb320 H369.size
  have hc428 := (H369.below.cell (p := ⟨b1, 4, none⟩) hb320).trans hc321
  have hb429 := Nat.lt_of_lt_of_le hb322 H369.size
  have hc430 := (H369.below.cell (p := ⟨b1, 5, none⟩) hb322).trans hc323
  have hb431 := Nat.lt_of_lt_of_le hb324 H369.size
  have hc432 := (H369.below.cell (p := ⟨b37, 0, none⟩) hb324).trans hc325
  have hb433 := Nat.lt_of_lt_of_le hb326 H369.size
  have hc434 := (H369.below.cell (p := ⟨b37, 1, none⟩) hb326).trans hc327
  have hb435 := Nat.lt_of_lt_of_le hb328 H369.size
  have hc436 := (H369.below.cell (p := ⟨b37, 2, none⟩) hb328).trans hc329
  have hb437 := Nat.lt_of_lt_of_le hb330 H369.size
  have hc438 := (H369.below.cell (p := ⟨b37, 3, none⟩) hb330).trans hc331
  have hb439 := Nat.lt_of_lt_of_le hb332 H369.size
  have hc440 := (H369.below.cell (p := ⟨b37, 4, none⟩) hb332).trans hc333
  have hb441 := Nat.lt_of_lt_of_le hb334 H369.size
  have hc442 := (H369.below.cell (p := ⟨b37, 5, none⟩) hb334).trans hc335
  have hb443 := Nat.lt_of_lt_of_le hb336 H369.size
  have hc444 := (H369.below.cell (p := ⟨b96, 0, none⟩) hb336).trans hc337
  have hb445 := Nat.lt_of_lt_of_le hb338 H369.size
  have hc446 := (H369.below.cell (p := ⟨b96, 1, none⟩) hb338).trans hc339
  have hb447 := Nat.lt_of_lt_of_le hb340 H369.size
  have hc448 := (H369.below.cell (p := ⟨b96, 2, none⟩) hb340).trans hc341
  have hb449 := Nat.lt_of_lt_of_le hb342 H369.size
  have hc450 := (H369.below.cell (p := ⟨b96, 3, none⟩) hb342).trans hc343
  have hb451 := Nat.lt_of_lt_of_le hb344 H369.size
  have hc452 := (H369.below.cell (p := ⟨b96, 4, none⟩) hb344).trans hc345
  have hb453 := Nat.lt_of_lt_of_le hb346 H369.size
  have hc454 := (H369.below.cell (p := ⟨b96, 5, none⟩) hb346).trans hc347
  have hb455 := Nat.lt_of_lt_of_le hb348 H369.size
  have hc456 := (H369.below.cell (p := ⟨b170, 0, none⟩) hb348).trans hc349
  have hb457 := Nat.lt_of_lt_of_le hb350 H369.size
  have hc458 := (H369.below.cell (p := ⟨b170, 1, none⟩) hb350).trans hc351
  have hb459 := Nat.lt_of_lt_of_le hb352 H369.size
  have hc460 := (H369.below.cell (p := ⟨b170, 2, none⟩) hb352).trans hc353
  have hb461 := Nat.lt_of_lt_of_le hb354 H369.size
  have hc462 := (H369.below.cell (p := ⟨b170, 3, none⟩) hb354).trans hc355
  have hb463 := Nat.lt_of_lt_of_le hb356 H369.size
  have hc464 := (H369.below.cell (p := ⟨b170, 4, none⟩) hb356).trans hc357
  have hb465 := Nat.lt_of_lt_of_le hb358 H369.size
  have hc466 := (H369.below.cell (p := ⟨b170, 5, none⟩) hb358).trans hc359
  have hb467 := Nat.lt_of_lt_of_le hb360 H369.size
  have hc468 := (H369.below.cell (p := ⟨b261, 0, none⟩) hb360).trans hc361
  have hb469 := Nat.lt_of_lt_of_le hb360 H369.size
  have hc470 := (H369.below.cell (p := ⟨b261, 1, none⟩) hb360).trans hc362
  have hb471 := Nat.lt_of_lt_of_le hb360 H369.size
  have hc472 := (H369.below.cell (p := ⟨b261, 2, none⟩) hb360).trans hc363
  have hb473 := Nat.lt_of_lt_of_le hb360 H369.size
  have hc474 := (H369.below.cell (p := ⟨b261, 3, none⟩) hb360).trans hc364
  have hb475 := Nat.lt_of_lt_of_le hb360 H369.size
  have hc476 := (H369.below.cell (p := ⟨b261, 4, none⟩) hb360).trans hc365
  have hb477 := Nat.lt_of_lt_of_le hb360 H369.size
  have hc478 := (H369.below.cell (p := ⟨b261, 5, none⟩) hb360).trans hc366
  have hb479 := (H369.at_ (k := 0) rfl).rec_.1
  have hc480 := (H369.at_ (k := 0) rfl).cell 0 (u := p5) rfl
  have hc481 := (H369.at_ (k := 0) rfl).cell 1 (u := .int .i64 o5.la.n) rfl
  have hc482 := (H369.at_ (k := 0) rfl).cell 2 (u := .int .i64 o5.la.who) rfl
  have hc483 := (H369.at_ (k := 0) rfl).cell 3 (u := .int .i64 o5.la.val) rfl
  have hc484 := (H369.at_ (k := 0) rfl).cell 4 (u := q5) rfl
  have hc485 := (H369.at_ (k := 0) rfl).cell 5 (u := r5) rfl
  refine Gx.val rfl rfl rfl (val_move rfl rfl) ?_
  refine Gx.val rfl rfl rfl (val_extract rfl rfl rfl) ?_
  refine Gx.val rfl rfl rfl (val_extract rfl rfl rfl) ?_
  refine Gx.eff rfl rfl rfl (eff_alloc rfl Try.ty27 (vs := [.slice none 0 0, .int .i64 0, .int .i64 0, .int .i64 0, .slice none 0 0, .slice none 0 0]) rfl) ?_
  rintro _ _ ⟨b486, rfl, rfl⟩
  refine Gx.eff0 rfl rfl (eff_store rfl Try.ty27 rfl rfl (us := [p6, .int .i64 o6.la.n, .int .i64 o6.la.who, .int .i64 o6.la.val, q6, r6]) rfl rfl (by simp only [List.all_cons, List.all_nil, Bool.true_and, Bool.and_true, IsS.one hi6.cn.isS, IsS.one hi6.ad.isS, IsS.one hi6.go.isS] <;> rfl) (k := 0) rfl (rfl) (vs' := [p6, .int .i64 o6.la.n, .int .i64 o6.la.who, .int .i64 o6.la.val, q6, r6]) (rfl) (l' := [Hp.rec_ b486 [p6, .int .i64 o6.la.n, .int .i64 o6.la.who, .int .i64 o6.la.val, q6, r6]]) rfl) ?_
  rintro _ _ rfl
  refine Gx.val rfl rfl rfl (val_assign rfl rfl) ?_
  refine Gx.done ?_
  refine Gx.thenN ?_
  refine Gx.seq ?_
  refine Gx.region ?_
  refine Gx.val rfl rfl rfl (val_move rfl rfl) ?_
  refine Gx.val rfl rfl rfl (Val.cast (val_loadA rfl Try.ty27 rfl rfl (us := [p1, .int .i64 o1.la.n, .int .i64 o1.la.who, .int .i64 o1.la.val, q1, r1]) rfl (cells_cons (cell_old hb431 hc432) (cells_cons (cell_old hb433 hc434) (cells_cons (cell_old hb435 hc436) (cells_cons (cell_old hb437 hc438) (cells_cons (cell_old hb439 hc440) (cells_cons (cell_old hb441 hc442) cells_nil))))))) (v' := .agg #[p1, .int .i64 o1.la.n, .int .i64 o1.la.who, .int .i64 o1.la.val, q1, r1]) rfl) ?_
  refine Gx.val rfl rfl rfl (Val.cast (val_loadA rfl Try.ty27 rfl rfl (us := [.slice ay1 ny1 cy1, .int .i64 b.la.n, .int .i64 b.la.who, .int .i64 b.la.val, .slice ay2 ny2 cy2, .slice ay3 ny3 cy3]) rfl (cells_cons (cell_old hb407 hc408) (cells_cons (cell_old hb409 hc410) (cells_cons (cell_old hb411 hc412) (cells_cons (cell_old hb413 hc414) (cells_cons (cell_old hb415 hc416) (cells_cons (cell_old hb417 hc418) cells_nil))))))) (v' := .agg #[.slice ay1 ny1 cy1, .int .i64 b.la.n, .int .i64 b.la.who, .int .i64 b.la.val, .slice ay2 ny2 cy2, .slice ay3 ny3 cy3]) rfl) ?_
  refine Gx.callB rfl rfl rfl (vs := [.int .i64 n, .agg #[p1, .int .i64 o1.la.n, .int .i64 o1.la.who, .int .i64 o1.la.val, q1, r1], .agg #[.slice ay1 ny1 cy1, .int .i64 b.la.n, .int .i64 b.la.who, .int .i64 b.la.val, .slice ay2 ny2 cy2, .slice ay3 ny3 cy3]]) rfl Try.fn9 rfl (R := (fun u w' => ∃ (p q r : Value) (code : Int) (o : Cp), u = .tuple #[.agg #[p, .int .i64 o.la.n, .int .i64 o.la.who, .int .i64 o.la.val, q, r], .int .i64 code] ∧ InM w' p q r o ∧ (code = 0 → GoodC n o1 ∧ GoodC n b) ∧ (GoodC n o1 → GoodC n b → mergeC o1 b = (code, o)) ∧ FineC o)) (fun w H => mg_new (n := n) (a := o1) (b := b) ⟨hs380.below H.below, hs381.below H.below, hs382.below H.below⟩ ⟨hs374.below H.below, hs375.below H.below, hs376.below H.below⟩ hf1.ar hf1.gr hrab hrgb) ?_
  rintro _ W487 ⟨p7, q7, r7, e7, o7, rfl, hi7, hk7, hm7, hf7⟩ H488
  have hW489 := hW370.trans (H488.below.mono hW370.size)
  have hs490 := hs371.below H488.below
  have hs491 := hs372.below H488.below
  have hs492 := hs373.below H488.below
  have hs493 := hs374.below H488.below
  have hs494 := hs375.below H488.below
  have hs495 := hs376.below H488.below
  have hs496 := hs377.below H488.below
  have hs497 := hs378.below H488.below
  have hs498 := hs379.below H488.below
  have hs499 := hs380.below H488.below
  have hs500 := hs381.below H488.below
  have hs501 := hs382.below H488.below
  have hs502 := hs383.below H488.below
  have hs503 := hs384.below H488.below
  have hs504 := hs385.below H488.below
  have hs505 := hs386.below H488.below
  have hs506 := hs387.below H488.below
  have hs507 := hs388.below H488.below
  have hs508 := hs389.below H488.below
  have hs509 := hs390.below H488.below
  have hs510 := hs391.below H488.below
  have hs511 := hs392.below H488.below
  have hs512 := hs393.below H488.below
  have hs513 := hs394.below H488.below
  have hs514 := hi6.cn.below H488.below
  have hs515 := hi6.ad.below H488.below
  have hs516 := hi6.go.below H488.below
  have hb517 := Nat.lt_of_lt_of_le hb395 H488.size
  have hc518 := (H488.below.cell (p := ⟨b3, 0, none⟩) hb395).trans hc396
  have hb519 := Nat.lt_of_lt_of_le hb397 H488.size
  have hc520 := (H488.below.cell (p := ⟨b3, 1, none⟩) hb397).trans hc398
  have hb521 := Nat.lt_of_lt_of_le hb399 H488.size
  have hc522 := (H488.below.cell (p := ⟨b3, 2, none⟩) hb399).trans hc400
  have hb523 := Nat.lt_of_lt_of_le hb401 H488.size
  have hc524 := (H488.below.cell (p := ⟨b3, 3, none⟩) hb401).trans hc402
  have hb525 := Nat.lt_of_lt_of_le hb403 H488.size
  have hc526 := (H488.below.cell (p := ⟨b3, 4, none⟩) hb403).trans hc404
  have hb527 := Nat.lt_of_lt_of_le hb405 H488.size
  have hc528 := (H488.below.cell (p := ⟨b3, 5, none⟩) hb405).trans hc406
  have hb529 := Nat.lt_of_lt_of_le hb407 H488.size
  have hc530 := (H488.below.cell (p := ⟨b2, 0, none⟩) hb407).trans hc408
  have hb531 := Nat.lt_of_lt_of_le hb409 H488.size
  have hc532 := (H488.below.cell (p := ⟨b2, 1, none⟩) hb409).trans hc410
  have hb533 := Nat.lt_of_lt_of_le hb411 H488.size
  have hc534 := (H488.below.cell (p := ⟨b2, 2, none⟩) hb411).trans hc412
  have hb535 := Nat.lt_of_lt_of_le hb413 H488.size
  have hc536 := (H488.below.cell (p := ⟨b2, 3, none⟩) hb413).trans hc414
  have hb537 := Nat.lt_of_lt_of_le hb415 H488.size
  have hc538 := (H488.below.cell (p := ⟨b2, 4, none⟩) hb415).trans hc416
  have hb539 := Nat.lt_of_lt_of_le hb417 H488.size
  have hc540 := (H488.below.cell (p := ⟨b2, 5, none⟩) hb417).trans hc418
  have hb541 := Nat.lt_of_lt_of_le hb419 H488.size
  have hc542 := (H488.below.cell (p := ⟨b1, 0, none⟩) hb419).trans hc420
  have hb543 := Nat.lt_of_lt_of_le hb421 H488.size
  have hc544 := (H488.below.cell (p := ⟨b1, 1, none⟩) hb421).trans hc422
  have hb545 := Nat.lt_of_lt_of_le hb423 H488.size
  have hc546 := (H488.below.cell (p := ⟨b1, 2, none⟩) hb423).trans hc424
  have hb547 := Nat.lt_of_lt_of_le hb425 H488.size
  have hc548 := (H488.below.cell (p := ⟨b1, 3, none⟩) hb425).trans hc426
  have hb549 := Nat.lt_of_lt_of_le hb427 H488.size
  have hc550 := (H488.below.cell (p := ⟨b1, 4, none⟩) hb427).trans hc428
  have hb551 := Nat.lt_of_lt_of_le hb429 H488.size
  have hc552 := (H488.below.cell (p := ⟨b1, 5, none⟩) hb429).trans hc430
  have hb553 := Nat.lt_of_lt_of_le hb431 H488.size
  have hc554 := (H488.below.cell (p := ⟨b37, 0, none⟩) hb431).trans hc432
  have hb555 := Nat.lt_of_lt_of_le hb433 H488.size
  have hc556 := (H488.below.cell (p := ⟨b37, 1, none⟩) hb433).trans hc434
  have hb557 := Nat.lt_of_lt_of_le hb435 H488.size
  have hc558 := (H488.below.cell (p := ⟨b37, 2, none⟩) hb435).trans hc436
  have hb559 := Nat.lt_of_lt_of_le hb437 H488.size
  have hc560 := (H488.below.cell (p := ⟨b37, 3, none⟩) hb437).trans hc438
  have hb561 := Nat.lt_of_lt_of_le hb439 H488.size
  have hc562 := (H488.below.cell (p := ⟨b37, 4, none⟩) hb439).trans hc440
  have hb563 := Nat.lt_of_lt_of_le hb441 H488.size
  have hc564 := (H488.below.cell (p := ⟨b37, 5, none⟩) hb441).trans hc442
  have hb565 := Nat.lt_of_lt_of_le hb443 H488.size
  have hc566 := (H488.below.cell (p := ⟨b96, 0, none⟩) hb443).trans hc444
  have hb567 := Nat.lt_of_lt_of_le hb445 H488.size
  have hc568 := (H488.below.cell (p := ⟨b96, 1, none⟩) hb445).trans hc446
  have hb569 := Nat.lt_of_lt_of_le hb447 H488.size
  have hc570 := (H488.below.cell (p := ⟨b96, 2, none⟩) hb447).trans hc448
  have hb571 := Nat.lt_of_lt_of_le hb449 H488.size
  have hc572 := (H488.below.cell (p := ⟨b96, 3, none⟩) hb449).trans hc450
  have hb573 := Nat.lt_of_lt_of_le hb451 H488.size
  have hc574 := (H488.below.cell (p := ⟨b96, 4, none⟩) hb451).trans hc452
  have hb575 := Nat.lt_of_lt_of_le hb453 H488.size
  have hc576 := (H488.below.cell (p := ⟨b96, 5, none⟩) hb453).trans hc454
  have hb577 := Nat.lt_of_lt_of_le hb455 H488.size
  have hc578 := (H488.below.cell (p := ⟨b170, 0, none⟩) hb455).trans hc456
  have hb579 := Nat.lt_of_lt_of_le hb457 H488.size
  have hc580 := (H488.below.cell (p := ⟨b170, 1, none⟩) hb457).trans hc458
  have hb581 := Nat.lt_of_lt_of_le hb459 H488.size
  have hc582 := (H488.below.cell (p := ⟨b170, 2, none⟩) hb459).trans hc460
  have hb583 := Nat.lt_of_lt_of_le hb461 H488.size
  have hc584 := (H488.below.cell (p := ⟨b170, 3, none⟩) hb461).trans hc462
  have hb585 := Nat.lt_of_lt_of_le hb463 H488.size
  have hc586 := (H488.below.cell (p := ⟨b170, 4, none⟩) hb463).trans hc464
  have hb587 := Nat.lt_of_lt_of_le hb465 H488.size
  have hc588 := (H488.below.cell (p := ⟨b170, 5, none⟩) hb465).trans hc466
  have hb589 := Nat.lt_of_lt_of_le hb467 H488.size
  have hc590 := (H488.below.cell (p := ⟨b261, 0, none⟩) hb467).trans hc468
  have hb591 := Nat.lt_of_lt_of_le hb469 H488.size
  have hc592 := (H488.below.cell (p := ⟨b261, 1, none⟩) hb469).trans hc470
  have hb593 := Nat.lt_of_lt_of_le hb471 H488.size
  have hc594 := (H488.below.cell (p := ⟨b261, 2, none⟩) hb471).trans hc472
  have hb595 := Nat.lt_of_lt_of_le hb473 H488.size
  have hc596 := (H488.below.cell (p := ⟨b261, 3, none⟩) hb473).trans hc474
  have hb597 := Nat.lt_of_lt_of_le hb475 H488.size
  have hc598 := (H488.below.cell (p := ⟨b261, 4, none⟩) hb475).trans hc476
  have hb599 := Nat.lt_of_lt_of_le hb477 H488.size
  have hc600 := (H488.below.cell (p := ⟨b261, 5, none⟩) hb477).trans hc478
  have hb601 := Nat.lt_of_lt_of_le hb479 H488.size
  have hc602 := (H488.below.cell (p := ⟨b367, 0, none⟩) hb479).trans hc480
  have hb603 := Nat.lt_of_lt_of_le hb479 H488.size
  have hc604 := (H488.below.cell (p := ⟨b367, 1, none⟩) hb479).trans hc481
  have hb605 := Nat.lt_of_lt_of_le hb479 H488.size
  have hc606 := (H488.below.cell (p := ⟨b367, 2, none⟩) hb479).trans hc482
  have hb607 := Nat.lt_of_lt_of_le hb479 H488.size
  have hc608 := (H488.below.cell (p := ⟨b367, 3, none⟩) hb479).trans hc483
  have hb609 := Nat.lt_of_lt_of_le hb479 H488.size
  have hc610 := (H488.below.cell (p := ⟨b367, 4, none⟩) hb479).trans hc484
  have hb611 := Nat.lt_of_lt_of_le hb479 H488.size
  have hc612 := (H488.below.cell (p := ⟨b367, 5, none⟩) hb479).trans hc485
  have hb613 := (H488.at_ (k := 0) rfl).rec_.1
  have hc614 := (H488.at_ (k := 0) rfl).cell 0 (u := p6) rfl
  have hc615 := (H488.at_ (k := 0) rfl).cell 1 (u := .int .i64 o6.la.n) rfl
  have hc616 := (H488.at_ (k := 0) rfl).cell 2 (u := .int .i64 o6.la.who) rfl
  have hc617 := (H488.at_ (k := 0) rfl).cell 3 (u := .int .i64 o6.la.val) rfl
  have hc618 := (H488.at_ (k := 0) rfl).cell 4 (u := q6) rfl
  have hc619 := (H488.at_ (k := 0) rfl).cell 5 (u := r6) rfl
  refine Gx.val rfl rfl rfl (val_move rfl rfl) ?_
  refine Gx.val rfl rfl rfl (val_extract rfl rfl rfl) ?_
  refine Gx.val rfl rfl rfl (val_extract rfl rfl rfl) ?_
  refine Gx.eff rfl rfl rfl (eff_alloc rfl Try.ty27 (vs := [.slice none 0 0, .int .i64 0, .int .i64 0, .int .i64 0, .slice none 0 0, .slice none 0 0]) rfl) ?_
  rintro _ _ ⟨b620, rfl, rfl⟩
  refine Gx.eff0 rfl rfl (eff_store rfl Try.ty27 rfl rfl (us := [p7, .int .i64 o7.la.n, .int .i64 o7.la.who, .int .i64 o7.la.val, q7, r7]) rfl rfl (by simp only [List.all_cons, List.all_nil, Bool.true_and, Bool.and_true, IsS.one hi7.cn.isS, IsS.one hi7.ad.isS, IsS.one hi7.go.isS] <;> rfl) (k := 0) rfl (rfl) (vs' := [p7, .int .i64 o7.la.n, .int .i64 o7.la.who, .int .i64 o7.la.val, q7, r7]) (rfl) (l' := [Hp.rec_ b620 [p7, .int .i64 o7.la.n, .int .i64 o7.la.who, .int .i64 o7.la.val, q7, r7]]) rfl) ?_
  rintro _ _ rfl
  refine Gx.val rfl rfl rfl (val_assign rfl rfl) ?_
  refine Gx.done ?_
  refine Gx.thenN ?_
  refine Gx.seq ?_
  have h7 := hm7 hg1 hgB
  rw [ho1, merge_abs hz1, ← ho1] at h7
  have he7 : e7 = 0 := (congrArg Prod.fst h7).symm
  have ho7 : o7 = o1 := (congrArg Prod.snd h7).symm
  have hlr : e5 = 0 → e6 = 0 → o5 = o6 := fun h5 h6 => by
    have h8 := hm5 hg1 hgC
    have h9 := hm6 hgA hg4
    have z8 := merge_parts (show (mergeC o1 c).1 = 0 by rw [h8]; exact h5)
    have z9 := merge_parts (show (mergeC a o4).1 = 0 by rw [h9]; exact h6)
    have w8 : o5 = mrg o1 c := by have := z8.1; rw [h8] at this; exact congrArg Prod.snd this
    have w9 : o6 = mrg a o4 := by have := z9.1; rw [h9] at this; exact congrArg Prod.snd this
    rw [w8, w9, ho1, ho4, mrg_assoc]
  refine Gx.region ?_
  refine Gx.val rfl rfl rfl (val_move rfl rfl) ?_
  refine Gx.val rfl rfl rfl (val_eql rfl rfl rfl) ?_
  refine Gx.val rfl rfl rfl (val_move rfl rfl) ?_
  refine Gx.slot (t := 110) (v := .bool true) (look_decT rfl (he7)) ?_
  refine Gx.valg rfl rfl rfl rfl rfl (Val.cast (val_loadA rfl Try.ty27 rfl rfl rfl (cells_rec (k := 0) rfl)) (v' := .agg #[p7, .int .i64 o7.la.n, .int .i64 o7.la.who, .int .i64 o7.la.val, q7, r7]) rfl) ?_
  refine Gx.valg rfl rfl rfl rfl rfl (Val.cast (val_loadA rfl Try.ty27 rfl rfl (us := [p1, .int .i64 o1.la.n, .int .i64 o1.la.who, .int .i64 o1.la.val, q1, r1]) rfl (cells_cons (cell_old hb553 hc554) (cells_cons (cell_old hb555 hc556) (cells_cons (cell_old hb557 hc558) (cells_cons (cell_old hb559 hc560) (cells_cons (cell_old hb561 hc562) (cells_cons (cell_old hb563 hc564) cells_nil))))))) (v' := .agg #[p1, .int .i64 o1.la.n, .int .i64 o1.la.who, .int .i64 o1.la.val, q1, r1]) rfl) ?_
  refine Gx.valg rfl rfl rfl rfl rfl (val_call (vs := [.agg #[p7, .int .i64 o7.la.n, .int .i64 o7.la.who, .int .i64 o7.la.val, q7, r7], .agg #[p1, .int .i64 o1.la.n, .int .i64 o1.la.who, .int .i64 o1.la.val, q1, r1]]) rfl Try.fn11 rfl (fun w H => copies_any (s := o7.la) (t := o1.la) (hi7.cn.below H.below) (hi7.ad.below H.below) (hi7.go.below H.below) (hs499.below H.below) (hs500.below H.below) (hs501.below H.below))) ?_
  refine Gx.val rfl rfl rfl (val_pickT rfl rfl rfl) ?_
  refine Gx.val rfl rfl rfl (val_move rfl rfl) ?_
  refine Gx.slot (t := 115) (v := .bool true) (look_decT rfl (by rw [ho7]; exact ⟨rfl, rfl, rfl, rfl⟩)) ?_
  refine Gx.valg rfl rfl rfl rfl rfl (val_move rfl rfl) ?_
  refine Gx.valg rfl rfl rfl rfl rfl (val_neq rfl rfl rfl) ?_
  refine Gx.valg rfl rfl rfl rfl rfl (val_move rfl rfl) ?_
  refine Gx.cases (t := 118) rfl (fun h621 => ?_) (fun h621 => ?_)
  · refine Gx.skipg rfl rfl rfl rfl rfl rfl ?_
    refine Gx.skipg rfl rfl rfl rfl rfl rfl ?_
    refine Gx.valg rfl rfl rfl rfl rfl (val_pickT rfl rfl rfl) ?_
    refine Gx.valg rfl rfl rfl rfl rfl (val_move rfl rfl) ?_
    refine Gx.skipg rfl rfl rfl rfl rfl rfl ?_
    refine Gx.skipg rfl rfl rfl rfl rfl rfl ?_
    refine Gx.skipg rfl rfl rfl rfl rfl rfl ?_
    refine Gx.valg rfl rfl rfl rfl rfl (val_pickT rfl rfl rfl) ?_
    refine Gx.val rfl rfl rfl (val_pickT rfl rfl rfl) ?_
    refine Gx.val rfl rfl rfl (val_assign rfl rfl) ?_
    refine Gx.done ?_
    refine Gx.thenN ?_
    refine Gx.ret ?_
    refine Gx.ret1B hW489 Try.results3 rfl ?_
    rfl
  refine Gx.valg rfl rfl rfl rfl rfl (val_move rfl rfl) ?_
  refine Gx.valg rfl rfl rfl rfl rfl (val_neq rfl rfl rfl) ?_
  refine Gx.valg rfl rfl rfl rfl rfl (val_pickF rfl rfl rfl) ?_
  refine Gx.valg rfl rfl rfl rfl rfl (val_move rfl rfl) ?_
  refine Gx.cases (t := 122) rfl (fun h622 => ?_) (fun h622 => ?_)
  · refine Gx.skipg rfl rfl rfl rfl rfl rfl ?_
    refine Gx.skipg rfl rfl rfl rfl rfl rfl ?_
    refine Gx.skipg rfl rfl rfl rfl rfl rfl ?_
    refine Gx.valg rfl rfl rfl rfl rfl (val_pickT rfl rfl rfl) ?_
    refine Gx.val rfl rfl rfl (val_pickT rfl rfl rfl) ?_
    refine Gx.val rfl rfl rfl (val_assign rfl rfl) ?_
    refine Gx.done ?_
    refine Gx.thenN ?_
    refine Gx.ret ?_
    refine Gx.ret1B hW489 Try.results3 rfl ?_
    rfl
  refine Gx.valg rfl rfl rfl rfl rfl (Val.cast (val_loadA rfl Try.ty27 rfl rfl (us := [p5, .int .i64 o5.la.n, .int .i64 o5.la.who, .int .i64 o5.la.val, q5, r5]) rfl (cells_cons (cell_old hb601 hc602) (cells_cons (cell_old hb603 hc604) (cells_cons (cell_old hb605 hc606) (cells_cons (cell_old hb607 hc608) (cells_cons (cell_old hb609 hc610) (cells_cons (cell_old hb611 hc612) cells_nil))))))) (v' := .agg #[p5, .int .i64 o5.la.n, .int .i64 o5.la.who, .int .i64 o5.la.val, q5, r5]) rfl) ?_
  refine Gx.valg rfl rfl rfl rfl rfl (Val.cast (val_loadA rfl Try.ty27 rfl rfl (us := [p6, .int .i64 o6.la.n, .int .i64 o6.la.who, .int .i64 o6.la.val, q6, r6]) rfl (cells_cons (cell_old hb613 hc614) (cells_cons (cell_old hb613 hc615) (cells_cons (cell_old hb613 hc616) (cells_cons (cell_old hb613 hc617) (cells_cons (cell_old hb613 hc618) (cells_cons (cell_old hb613 hc619) cells_nil))))))) (v' := .agg #[p6, .int .i64 o6.la.n, .int .i64 o6.la.who, .int .i64 o6.la.val, q6, r6]) rfl) ?_
  refine Gx.valg rfl rfl rfl rfl rfl (val_call (vs := [.agg #[p5, .int .i64 o5.la.n, .int .i64 o5.la.who, .int .i64 o5.la.val, q5, r5], .agg #[p6, .int .i64 o6.la.n, .int .i64 o6.la.who, .int .i64 o6.la.val, q6, r6]]) rfl Try.fn11 rfl (fun w H => copies_any (s := o5.la) (t := o6.la) (hs511.below H.below) (hs512.below H.below) (hs513.below H.below) (hs514.below H.below) (hs515.below H.below) (hs516.below H.below))) ?_
  refine Gx.valg rfl rfl rfl rfl rfl (val_pickF rfl rfl rfl) ?_
  refine Gx.val rfl rfl rfl (val_pickT rfl rfl rfl) ?_
  refine Gx.val rfl rfl rfl (val_assign rfl rfl) ?_
  refine Gx.done ?_
  refine Gx.thenN ?_
  refine Gx.ret ?_
  refine Gx.ret1B hW489 Try.results3 rfl ?_
  exact congrArg Value.bool (decide_eq_true (by rw [hlr (Classical.not_not.1 h621) (Classical.not_not.1 h622)]; exact ⟨rfl, rfl, rfl, rfl⟩))

end Go.Proofs.Ytfpkfbffpkjgbaa
