/- A step of the machine, whole. The walk. No condition. -/
import Derived.Test.YtjiefamdpbnngaaA4
namespace Go.Proofs.Ytjiefamdpbnngaa
open Go.RowKit
set_option linter.unusedVariables false
set_option linter.unusedSimpArgs false
set_option maxRecDepth 100000

theorem step_begin_no0 {W w : World} {S mom : Nat} {a1 a2 a3 : Option Nat} {cv ov : Value} {cs : List Sd} {mo : List Om} {R : Hp} {k : Nat} {lo sr val : Int} {wr : Bool}  (H : Sat W w (regP S [some k, a1, a2, a3] cv ov cs mo * R)) :
    Calls Try.prog 11 #[ptr S 0, .agg #[.int .i64 1, .int .i64 0, .int .i64 lo, .int .i64 sr, .bool wr, .int .i64 val], .int .i64 ((mom : Nat) : Int)] w (Ret W fun v l => v = .int .i64 6 ∧ sep l = regP S [some k, a1, a2, a3] cv ov cs mo * R) := by
  refine Gx.enter (l := [regP S [some k, a1, a2, a3] cv ov cs mo, R]) Try.func11 rfl Try.ntmps11 rfl (H.frame1) ?_
  refine Gx.know (m' := [(0, ptr S 0), (1, .agg #[.int .i64 1, .int .i64 0, .int .i64 lo, .int .i64 sr, .bool wr, .int .i64 val]), (2, .int .i64 ((mom : Nat) : Int))]) (.cons rfl (.cons rfl (.cons rfl .nil))) ?_
  refine Gx.seq ?_
  refine Gx.region ?_
  refine Gx.eff rfl rfl rfl (eff_box rfl rfl (vs := [.int .i64 1, .int .i64 0, .int .i64 lo, .int .i64 sr, .bool wr, .int .i64 val]) rfl) ?_
  rintro _ _ ⟨b1, rfl, rfl⟩
  refine Gx.val rfl rfl rfl (val_assign rfl rfl) ?_
  refine Gx.done ?_
  refine Gx.thenN ?_
  refine Gx.seq ?_
  refine Gx.seq ?_
  refine Gx.region ?_
  refine Gx.val rfl rfl rfl (Val.cast (val_fieldAddr rfl Try.underlying24 rfl Try.ty3 rfl rfl) (v' := ptr b1 0) rfl) ?_
  refine Gx.val rfl rfl rfl (val_load rfl Try.ty3 rfl rfl (cell_rec (k := 0) rfl rfl)) ?_
  refine Gx.val rfl rfl rfl (Val.cast (val_lss rfl rfl rfl) (v' := .bool false) rfl) ?_
  refine Gx.val rfl rfl rfl (val_move rfl rfl) ?_
  refine Gx.valg rfl rfl rfl rfl rfl (Val.cast (val_fieldAddr rfl Try.underlying24 rfl Try.ty3 rfl rfl) (v' := ptr b1 0) rfl) ?_
  refine Gx.valg rfl rfl rfl rfl rfl (val_load rfl Try.ty3 rfl rfl (cell_rec (k := 0) rfl rfl)) ?_
  refine Gx.valg rfl rfl rfl rfl rfl (Val.cast (val_gtr rfl rfl rfl) (v' := .bool false) rfl) ?_
  refine Gx.val rfl rfl rfl (val_pickF rfl rfl rfl) ?_
  refine Gx.done ?_
  refine Gx.thenN ?_
  refine Gx.f rfl ?_
  refine Gx.skip ?_
  refine Gx.thenN ?_
  refine Gx.seq ?_
  refine Gx.seq ?_
  refine Gx.regionQ Try.mixed (by kernel_rfl) ?_
  refine Gq.val rfl rfl rfl (Val.cast (val_fieldAddr rfl Try.underlying24 rfl Try.ty3 rfl rfl) (v' := ptr b1 0) rfl) ?_
  refine Gq.val rfl rfl rfl (val_load rfl Try.ty3 rfl rfl (cell_rec (k := 0) rfl rfl)) ?_
  refine Gq.val rfl rfl rfl (Val.cast (val_neq rfl rfl rfl) (v' := .bool true) rfl) ?_
  refine Gq.val rfl rfl rfl (val_move rfl rfl) ?_
  refine Gq.valg rfl rfl rfl rfl rfl (Val.cast (val_fieldAddr rfl Try.underlying24 rfl Try.ty3 rfl rfl) (v' := ptr b1 1) rfl) ?_
  refine Gq.valg rfl rfl rfl rfl rfl (val_load rfl Try.ty3 rfl rfl (cell_rec (k := 0) rfl rfl)) ?_
  refine Gq.valg rfl rfl rfl rfl rfl (Val.cast (val_lss rfl rfl rfl) (v' := .bool false) rfl) ?_
  refine Gq.valg rfl rfl rfl rfl rfl (val_move rfl rfl) ?_
  refine Gq.valg rfl rfl rfl rfl rfl (Val.cast (val_fieldAddr rfl Try.underlying24 rfl Try.ty3 rfl rfl) (v' := ptr b1 1) rfl) ?_
  refine Gq.valg rfl rfl rfl rfl rfl (val_load rfl Try.ty3 rfl rfl (cell_rec (k := 0) rfl rfl)) ?_
  refine Gq.valg rfl rfl rfl rfl rfl (Val.cast (val_geq rfl rfl rfl) (v' := .bool false) rfl) ?_
  refine Gq.valg rfl rfl rfl rfl rfl (val_pickF rfl rfl rfl) ?_
  refine Gq.val rfl rfl rfl (val_pickT rfl rfl rfl) ?_
  refine Gq.val rfl rfl rfl (val_move rfl rfl) ?_
  refine Gq.valg rfl rfl rfl rfl rfl (Val.cast (val_fieldAddr rfl Try.underlying24 rfl Try.ty3 rfl rfl) (v' := ptr b1 0) rfl) ?_
  refine Gq.valg rfl rfl rfl rfl rfl (val_load rfl Try.ty3 rfl rfl (cell_rec (k := 0) rfl rfl)) ?_
  refine Gq.valg rfl rfl rfl rfl rfl (Val.cast (val_neq rfl rfl rfl) (v' := .bool false) rfl) ?_
  refine Gq.valg rfl rfl rfl rfl rfl (val_move rfl rfl) ?_
  refine Gq.skipg rfl rfl rfl rfl rfl rfl ?_
  refine Gq.skipg rfl rfl rfl rfl rfl rfl ?_
  refine Gq.skipg rfl rfl rfl rfl rfl rfl ?_
  refine Gq.skipg rfl rfl rfl rfl rfl rfl ?_
  refine Gq.skipu rfl rfl rfl rfl rfl ?_
  refine Gq.skipu rfl rfl rfl rfl rfl ?_
  refine Gq.skipu rfl rfl rfl rfl rfl ?_
  refine Gq.skipu rfl rfl rfl rfl rfl ?_
  refine Gq.skipu rfl rfl rfl rfl rfl ?_
  refine Gq.skipu rfl rfl rfl rfl rfl ?_
  refine Gq.skipu rfl rfl rfl rfl rfl ?_
  refine Gq.skipu rfl rfl rfl rfl rfl ?_
  refine Gq.skipg rfl rfl rfl rfl rfl rfl ?_
  refine Gq.valg rfl rfl rfl rfl rfl (val_pickF rfl rfl rfl) ?_
  refine Gq.val rfl rfl rfl (val_pickF rfl rfl rfl) ?_
  refine Gq.done ?_
  refine Gx.thenN ?_
  refine Gx.f rfl ?_
  refine Gx.skip ?_
  refine Gx.thenN ?_
  refine Gx.seq ?_
  refine Gx.seq ?_
  refine Gx.region ?_
  refine Gx.val rfl rfl rfl (Val.cast (val_fieldAddr rfl Try.underlying24 rfl Try.ty3 rfl rfl) (v' := ptr b1 0) rfl) ?_
  refine Gx.val rfl rfl rfl (val_load rfl Try.ty3 rfl rfl (cell_rec (k := 0) rfl rfl)) ?_
  refine Gx.done ?_
  refine Gx.thenN ?_
  refine Gx.block ?_
  refine Gx.seq ?_
  refine Gx.region ?_
  refine Gx.val rfl rfl rfl (Val.cast (val_eql rfl rfl rfl) (v' := .bool true) rfl) ?_
  refine Gx.val rfl rfl rfl (val_assign rfl rfl) ?_
  refine Gx.done ?_
  refine Gx.thenN ?_
  refine Gx.t rfl ?_
  refine Gx.seq ?_
  refine Gx.region ?_
  refine Gx.val rfl rfl rfl (val_move rfl rfl) ?_
  refine Gx.val rfl rfl rfl (Val.cast (val_loadA rfl Try.ty24 rfl rfl rfl (cells_rec (k := 0) rfl)) (v' := .agg #[.int .i64 1, .int .i64 0, .int .i64 lo, .int .i64 sr, .bool wr, .int .i64 val]) rfl) ?_
  refine Gx.val rfl rfl rfl (val_move rfl rfl) ?_
  refine Gx.eff rfl rfl rfl (eff_call (vs := [ptr S 0, .agg #[.int .i64 1, .int .i64 0, .int .i64 lo, .int .i64 sr, .bool wr, .int .i64 val], .int .i64 ((mom : Nat) : Int)]) rfl Try.fn14 rfl (fun w H => begin_no0 (H.at_ (k := 1) rfl))) ?_
  rintro _ l2 ⟨rfl, hl2⟩
  refine Gx.sepEq (l' := [regP S [some k, a1, a2, a3] cv ov cs mo, Hp.rec_ b1 [.int .i64 1, .int .i64 0, .int .i64 lo, .int .i64 sr, .bool wr, .int .i64 val], R]) hl2 ?_
  refine Gx.val rfl rfl rfl (val_assign rfl rfl) ?_
  refine Gx.done ?_
  refine Gx.thenN ?_
  refine Gx.ret ?_
  refine Gx.blkR ?_
  refine Gx.thenR ?_
  refine Gx.drop 1 rfl ?_
  refine Gx.ret1 Try.results11 rfl ?_
  exact ⟨rfl, sep1 _ _⟩

theorem step_begin0 {W w : World} {S mom : Nat} {a1 a2 a3 : Option Nat} {cv ov : Value} {cs : List Sd} {mo : List Om} {R : Hp}  {lo sr val : Int} {wr : Bool} (h1 : ∀ k, a1 = some k → k < mo.length) (h2 : ∀ k, a2 = some k → k < mo.length) (h3 : ∀ k, a3 = some k → k < mo.length) (hml : mo.length ≤ 1000) (H : Sat W w (regP S [none, a1, a2, a3] cv ov cs mo * R)) :
    Calls Try.prog 11 #[ptr S 0, .agg #[.int .i64 1, .int .i64 0, .int .i64 lo, .int .i64 sr, .bool wr, .int .i64 val], .int .i64 ((mom : Nat) : Int)] w (Ret W fun v l => ∃ (b b2 : Nat) (ov' : Value), v = .int .i64 0 ∧ sep l = regP S [some mo.length, a1, a2, a3] cv ov' cs (mo ++ [(⟨b, b2, newO 0 wr val mom⟩ : Om)]) * R) := by
  refine Gx.enter (l := [regP S [none, a1, a2, a3] cv ov cs mo, R]) Try.func11 rfl Try.ntmps11 rfl (H.frame1) ?_
  refine Gx.know (m' := [(0, ptr S 0), (1, .agg #[.int .i64 1, .int .i64 0, .int .i64 lo, .int .i64 sr, .bool wr, .int .i64 val]), (2, .int .i64 ((mom : Nat) : Int))]) (.cons rfl (.cons rfl (.cons rfl .nil))) ?_
  refine Gx.seq ?_
  refine Gx.region ?_
  refine Gx.eff rfl rfl rfl (eff_box rfl rfl (vs := [.int .i64 1, .int .i64 0, .int .i64 lo, .int .i64 sr, .bool wr, .int .i64 val]) rfl) ?_
  rintro _ _ ⟨b1, rfl, rfl⟩
  refine Gx.val rfl rfl rfl (val_assign rfl rfl) ?_
  refine Gx.done ?_
  refine Gx.thenN ?_
  refine Gx.seq ?_
  refine Gx.seq ?_
  refine Gx.region ?_
  refine Gx.val rfl rfl rfl (Val.cast (val_fieldAddr rfl Try.underlying24 rfl Try.ty3 rfl rfl) (v' := ptr b1 0) rfl) ?_
  refine Gx.val rfl rfl rfl (val_load rfl Try.ty3 rfl rfl (cell_rec (k := 0) rfl rfl)) ?_
  refine Gx.val rfl rfl rfl (Val.cast (val_lss rfl rfl rfl) (v' := .bool false) rfl) ?_
  refine Gx.val rfl rfl rfl (val_move rfl rfl) ?_
  refine Gx.valg rfl rfl rfl rfl rfl (Val.cast (val_fieldAddr rfl Try.underlying24 rfl Try.ty3 rfl rfl) (v' := ptr b1 0) rfl) ?_
  refine Gx.valg rfl rfl rfl rfl rfl (val_load rfl Try.ty3 rfl rfl (cell_rec (k := 0) rfl rfl)) ?_
  refine Gx.valg rfl rfl rfl rfl rfl (Val.cast (val_gtr rfl rfl rfl) (v' := .bool false) rfl) ?_
  refine Gx.val rfl rfl rfl (val_pickF rfl rfl rfl) ?_
  refine Gx.done ?_
  refine Gx.thenN ?_
  refine Gx.f rfl ?_
  refine Gx.skip ?_
  refine Gx.thenN ?_
  refine Gx.seq ?_
  refine Gx.seq ?_
  refine Gx.regionQ Try.mixed (by kernel_rfl) ?_
  refine Gq.val rfl rfl rfl (Val.cast (val_fieldAddr rfl Try.underlying24 rfl Try.ty3 rfl rfl) (v' := ptr b1 0) rfl) ?_
  refine Gq.val rfl rfl rfl (val_load rfl Try.ty3 rfl rfl (cell_rec (k := 0) rfl rfl)) ?_
  refine Gq.val rfl rfl rfl (Val.cast (val_neq rfl rfl rfl) (v' := .bool true) rfl) ?_
  refine Gq.val rfl rfl rfl (val_move rfl rfl) ?_
  refine Gq.valg rfl rfl rfl rfl rfl (Val.cast (val_fieldAddr rfl Try.underlying24 rfl Try.ty3 rfl rfl) (v' := ptr b1 1) rfl) ?_
  refine Gq.valg rfl rfl rfl rfl rfl (val_load rfl Try.ty3 rfl rfl (cell_rec (k := 0) rfl rfl)) ?_
  refine Gq.valg rfl rfl rfl rfl rfl (Val.cast (val_lss rfl rfl rfl) (v' := .bool false) rfl) ?_
  refine Gq.valg rfl rfl rfl rfl rfl (val_move rfl rfl) ?_
  refine Gq.valg rfl rfl rfl rfl rfl (Val.cast (val_fieldAddr rfl Try.underlying24 rfl Try.ty3 rfl rfl) (v' := ptr b1 1) rfl) ?_
  refine Gq.valg rfl rfl rfl rfl rfl (val_load rfl Try.ty3 rfl rfl (cell_rec (k := 0) rfl rfl)) ?_
  refine Gq.valg rfl rfl rfl rfl rfl (Val.cast (val_geq rfl rfl rfl) (v' := .bool false) rfl) ?_
  refine Gq.valg rfl rfl rfl rfl rfl (val_pickF rfl rfl rfl) ?_
  refine Gq.val rfl rfl rfl (val_pickT rfl rfl rfl) ?_
  refine Gq.val rfl rfl rfl (val_move rfl rfl) ?_
  refine Gq.valg rfl rfl rfl rfl rfl (Val.cast (val_fieldAddr rfl Try.underlying24 rfl Try.ty3 rfl rfl) (v' := ptr b1 0) rfl) ?_
  refine Gq.valg rfl rfl rfl rfl rfl (val_load rfl Try.ty3 rfl rfl (cell_rec (k := 0) rfl rfl)) ?_
  refine Gq.valg rfl rfl rfl rfl rfl (Val.cast (val_neq rfl rfl rfl) (v' := .bool false) rfl) ?_
  refine Gq.valg rfl rfl rfl rfl rfl (val_move rfl rfl) ?_
  refine Gq.skipg rfl rfl rfl rfl rfl rfl ?_
  refine Gq.skipg rfl rfl rfl rfl rfl rfl ?_
  refine Gq.skipg rfl rfl rfl rfl rfl rfl ?_
  refine Gq.skipg rfl rfl rfl rfl rfl rfl ?_
  refine Gq.skipu rfl rfl rfl rfl rfl ?_
  refine Gq.skipu rfl rfl rfl rfl rfl ?_
  refine Gq.skipu rfl rfl rfl rfl rfl ?_
  refine Gq.skipu rfl rfl rfl rfl rfl ?_
  refine Gq.skipu rfl rfl rfl rfl rfl ?_
  refine Gq.skipu rfl rfl rfl rfl rfl ?_
  refine Gq.skipu rfl rfl rfl rfl rfl ?_
  refine Gq.skipu rfl rfl rfl rfl rfl ?_
  refine Gq.skipg rfl rfl rfl rfl rfl rfl ?_
  refine Gq.valg rfl rfl rfl rfl rfl (val_pickF rfl rfl rfl) ?_
  refine Gq.val rfl rfl rfl (val_pickF rfl rfl rfl) ?_
  refine Gq.done ?_
  refine Gx.thenN ?_
  refine Gx.f rfl ?_
  refine Gx.skip ?_
  refine Gx.thenN ?_
  refine Gx.seq ?_
  refine Gx.seq ?_
  refine Gx.region ?_
  refine Gx.val rfl rfl rfl (Val.cast (val_fieldAddr rfl Try.underlying24 rfl Try.ty3 rfl rfl) (v' := ptr b1 0) rfl) ?_
  refine Gx.val rfl rfl rfl (val_load rfl Try.ty3 rfl rfl (cell_rec (k := 0) rfl rfl)) ?_
  refine Gx.done ?_
  refine Gx.thenN ?_
  refine Gx.block ?_
  refine Gx.seq ?_
  refine Gx.region ?_
  refine Gx.val rfl rfl rfl (Val.cast (val_eql rfl rfl rfl) (v' := .bool true) rfl) ?_
  refine Gx.val rfl rfl rfl (val_assign rfl rfl) ?_
  refine Gx.done ?_
  refine Gx.thenN ?_
  refine Gx.t rfl ?_
  refine Gx.seq ?_
  refine Gx.region ?_
  refine Gx.val rfl rfl rfl (val_move rfl rfl) ?_
  refine Gx.val rfl rfl rfl (Val.cast (val_loadA rfl Try.ty24 rfl rfl rfl (cells_rec (k := 0) rfl)) (v' := .agg #[.int .i64 1, .int .i64 0, .int .i64 lo, .int .i64 sr, .bool wr, .int .i64 val]) rfl) ?_
  refine Gx.val rfl rfl rfl (val_move rfl rfl) ?_
  refine Gx.eff rfl rfl rfl (eff_call (vs := [ptr S 0, .agg #[.int .i64 1, .int .i64 0, .int .i64 lo, .int .i64 sr, .bool wr, .int .i64 val], .int .i64 ((mom : Nat) : Int)]) rfl Try.fn14 rfl (fun w H => begin_yes0 h1 h2 h3 hml (H.at_ (k := 1) rfl))) ?_
  rintro _ l9 ⟨b, b2, ov', rfl, hio, hl9⟩
  refine Gx.sepEq (l' := [regP S [some mo.length, a1, a2, a3] cv ov' cs (mo ++ [(⟨b, b2, newO 0 wr val mom⟩ : Om)]), Hp.rec_ b1 [.int .i64 1, .int .i64 0, .int .i64 lo, .int .i64 sr, .bool wr, .int .i64 val], R]) hl9 ?_
  refine Gx.val rfl rfl rfl (val_assign rfl rfl) ?_
  refine Gx.done ?_
  refine Gx.thenN ?_
  refine Gx.ret ?_
  refine Gx.blkR ?_
  refine Gx.thenR ?_
  refine Gx.drop 1 rfl ?_
  refine Gx.ret1 Try.results11 rfl ?_
  exact ⟨b, b2, ov', rfl, sep1 _ _⟩

theorem step_reach_nil0 {W w : World} {i : Nat} {S mom : Nat} {a1 a2 a3 : Option Nat} {cv ov : Value} {cs : List Sd} {mo : List Om} {R : Hp} {sr val : Int} {wr : Bool}  (hi : i < cs.length) (h5 : cs.length ≤ 5) (H : Sat W w (regP S [none, a1, a2, a3] cv ov cs mo * R)) :
    Calls Try.prog 11 #[ptr S 0, .agg #[.int .i64 2, .int .i64 0, .int .i64 ((i : Nat) : Int), .int .i64 sr, .bool wr, .int .i64 val], .int .i64 ((mom : Nat) : Int)] w (Ret W fun v l => v = .int .i64 6 ∧ sep l = regP S [none, a1, a2, a3] cv ov cs mo * R) := by
  refine Gx.enter (l := [Hp.rec_ S [cv, ov, .pointer none, nowV (mo.map Om.b) a1, nowV (mo.map Om.b) a2, nowV (mo.map Om.b) a3], Hp.own Fsd 3 cv cs, Hp.own FP 1 ov (mo.map Om.b), Hp.big opH mo, R]) Try.func11 rfl Try.ntmps11 rfl ((regP_open H)) ?_
  refine Gx.know (m' := [(0, ptr S 0), (1, .agg #[.int .i64 2, .int .i64 0, .int .i64 ((i : Nat) : Int), .int .i64 sr, .bool wr, .int .i64 val]), (2, .int .i64 ((mom : Nat) : Int))]) (.cons rfl (.cons rfl (.cons rfl .nil))) ?_
  refine Gx.seq ?_
  refine Gx.region ?_
  refine Gx.eff rfl rfl rfl (eff_box rfl rfl (vs := [.int .i64 2, .int .i64 0, .int .i64 ((i : Nat) : Int), .int .i64 sr, .bool wr, .int .i64 val]) rfl) ?_
  rintro _ _ ⟨b1, rfl, rfl⟩
  refine Gx.val rfl rfl rfl (val_assign rfl rfl) ?_
  refine Gx.done ?_
  refine Gx.thenN ?_
  refine Gx.seq ?_
  refine Gx.seq ?_
  refine Gx.region ?_
  refine Gx.val rfl rfl rfl (Val.cast (val_fieldAddr rfl Try.underlying24 rfl Try.ty3 rfl rfl) (v' := ptr b1 0) rfl) ?_
  refine Gx.val rfl rfl rfl (val_load rfl Try.ty3 rfl rfl (cell_rec (k := 0) rfl rfl)) ?_
  refine Gx.val rfl rfl rfl (Val.cast (val_lss rfl rfl rfl) (v' := .bool false) rfl) ?_
  refine Gx.val rfl rfl rfl (val_move rfl rfl) ?_
  refine Gx.valg rfl rfl rfl rfl rfl (Val.cast (val_fieldAddr rfl Try.underlying24 rfl Try.ty3 rfl rfl) (v' := ptr b1 0) rfl) ?_
  refine Gx.valg rfl rfl rfl rfl rfl (val_load rfl Try.ty3 rfl rfl (cell_rec (k := 0) rfl rfl)) ?_
  refine Gx.valg rfl rfl rfl rfl rfl (Val.cast (val_gtr rfl rfl rfl) (v' := .bool false) rfl) ?_
  refine Gx.val rfl rfl rfl (val_pickF rfl rfl rfl) ?_
  refine Gx.done ?_
  refine Gx.thenN ?_
  refine Gx.f rfl ?_
  refine Gx.skip ?_
  refine Gx.thenN ?_
  refine Gx.seq ?_
  refine Gx.seq ?_
  refine Gx.regionQ Try.mixed (by kernel_rfl) ?_
  refine Gq.val rfl rfl rfl (Val.cast (val_fieldAddr rfl Try.underlying24 rfl Try.ty3 rfl rfl) (v' := ptr b1 0) rfl) ?_
  refine Gq.val rfl rfl rfl (val_load rfl Try.ty3 rfl rfl (cell_rec (k := 0) rfl rfl)) ?_
  refine Gq.val rfl rfl rfl (Val.cast (val_neq rfl rfl rfl) (v' := .bool true) rfl) ?_
  refine Gq.val rfl rfl rfl (val_move rfl rfl) ?_
  refine Gq.valg rfl rfl rfl rfl rfl (Val.cast (val_fieldAddr rfl Try.underlying24 rfl Try.ty3 rfl rfl) (v' := ptr b1 1) rfl) ?_
  refine Gq.valg rfl rfl rfl rfl rfl (val_load rfl Try.ty3 rfl rfl (cell_rec (k := 0) rfl rfl)) ?_
  refine Gq.valg rfl rfl rfl rfl rfl (Val.cast (val_lss rfl rfl rfl) (v' := .bool false) rfl) ?_
  refine Gq.valg rfl rfl rfl rfl rfl (val_move rfl rfl) ?_
  refine Gq.valg rfl rfl rfl rfl rfl (Val.cast (val_fieldAddr rfl Try.underlying24 rfl Try.ty3 rfl rfl) (v' := ptr b1 1) rfl) ?_
  refine Gq.valg rfl rfl rfl rfl rfl (val_load rfl Try.ty3 rfl rfl (cell_rec (k := 0) rfl rfl)) ?_
  refine Gq.valg rfl rfl rfl rfl rfl (Val.cast (val_geq rfl rfl rfl) (v' := .bool false) rfl) ?_
  refine Gq.valg rfl rfl rfl rfl rfl (val_pickF rfl rfl rfl) ?_
  refine Gq.val rfl rfl rfl (val_pickT rfl rfl rfl) ?_
  refine Gq.val rfl rfl rfl (val_move rfl rfl) ?_
  refine Gq.valg rfl rfl rfl rfl rfl (Val.cast (val_fieldAddr rfl Try.underlying24 rfl Try.ty3 rfl rfl) (v' := ptr b1 0) rfl) ?_
  refine Gq.valg rfl rfl rfl rfl rfl (val_load rfl Try.ty3 rfl rfl (cell_rec (k := 0) rfl rfl)) ?_
  refine Gq.valg rfl rfl rfl rfl rfl (Val.cast (val_neq rfl rfl rfl) (v' := .bool true) rfl) ?_
  refine Gq.valg rfl rfl rfl rfl rfl (val_move rfl rfl) ?_
  refine Gq.valg rfl rfl rfl rfl rfl (Val.cast (val_fieldAddr rfl Try.underlying24 rfl Try.ty3 rfl rfl) (v' := ptr b1 2) rfl) ?_
  refine Gq.valg rfl rfl rfl rfl rfl (val_load rfl Try.ty3 rfl rfl (cell_rec (k := 0) rfl rfl)) ?_
  refine Gq.valg rfl rfl rfl rfl rfl (val_lss rfl rfl rfl) ?_
  refine Gq.valg rfl rfl rfl rfl rfl (val_move rfl rfl) ?_
  refine Gq.slot (t := 36) (v := .bool false) (look_decF rfl (by omega)) ?_
  refine Gq.valg rfl rfl rfl rfl rfl (Val.cast (val_fieldAddr rfl Try.underlying24 rfl Try.ty3 rfl rfl) (v' := ptr b1 2) rfl) ?_
  refine Gq.valg rfl rfl rfl rfl rfl (val_load rfl Try.ty3 rfl rfl (cell_rec (k := 0) rfl rfl)) ?_
  refine Gq.valg rfl rfl rfl rfl rfl (val_move rfl rfl) ?_
  refine Gq.valg rfl rfl rfl rfl rfl (val_nilCheck rfl rfl) ?_
  refine Gq.valg rfl rfl rfl rfl rfl (Val.cast (val_fieldAddr rfl Try.underlying47 rfl Try.ty42 rfl rfl) (v' := ptr S 0) rfl) ?_
  refine Gq.valg rfl rfl rfl rfl rfl (val_load rfl Try.ty42 rfl rfl (cell_rec (k := 1) rfl rfl)) ?_
  refine Gq.valg rfl rfl rfl rfl rfl (val_len rfl Try.underlying42 rfl (len_own (k := 2) rfl)) ?_
  refine Gq.valg rfl rfl rfl rfl rfl (val_geq rfl rfl rfl) ?_
  refine Gq.valg rfl rfl rfl rfl rfl (val_pickF rfl rfl rfl) ?_
  refine Gq.valg rfl rfl rfl rfl rfl (val_pickT rfl rfl rfl) ?_
  refine Gq.val rfl rfl rfl (val_pickF rfl rfl rfl) ?_
  refine Gq.done ?_
  refine Gx.thenN ?_
  refine Gx.decF rfl (by omega) ?_
  refine Gx.skip ?_
  refine Gx.thenN ?_
  refine Gx.seq ?_
  refine Gx.seq ?_
  refine Gx.region ?_
  refine Gx.val rfl rfl rfl (Val.cast (val_fieldAddr rfl Try.underlying24 rfl Try.ty3 rfl rfl) (v' := ptr b1 0) rfl) ?_
  refine Gx.val rfl rfl rfl (val_load rfl Try.ty3 rfl rfl (cell_rec (k := 0) rfl rfl)) ?_
  refine Gx.done ?_
  refine Gx.thenN ?_
  refine Gx.block ?_
  refine Gx.seq ?_
  refine Gx.region ?_
  refine Gx.val rfl rfl rfl (Val.cast (val_eql rfl rfl rfl) (v' := .bool false) rfl) ?_
  refine Gx.val rfl rfl rfl (val_assign rfl rfl) ?_
  refine Gx.done ?_
  refine Gx.thenN ?_
  refine Gx.f rfl ?_
  refine Gx.seq ?_
  refine Gx.region ?_
  refine Gx.val rfl rfl rfl (Val.cast (val_eql rfl rfl rfl) (v' := .bool true) rfl) ?_
  refine Gx.val rfl rfl rfl (val_assign rfl rfl) ?_
  refine Gx.done ?_
  refine Gx.thenN ?_
  refine Gx.t rfl ?_
  refine Gx.seq ?_
  refine Gx.regionO (fun j => false) 11 [0, 1, 2, 3, 4, 5, 6, 7, 8, 9, 10] (fun _ => [Hp.rec_ b1 [.int .i64 2, .int .i64 0, .int .i64 ((i : Nat) : Int), .int .i64 sr, .bool wr, .int .i64 val], Hp.rec_ S [cv, ov, .pointer none, nowV (mo.map Om.b) a1, nowV (mo.map Om.b) a2, nowV (mo.map Om.b) a3], Hp.own Fsd 3 cv cs, Hp.own FP 1 ov (mo.map Om.b), Hp.big opH mo, R]) Try.mixed (by kernel_rfl) rfl ?_
  refine Gw.val rfl rfl rfl rfl rfl (fun us => val_move rfl rfl) ?_
  refine Gw.val rfl rfl rfl rfl rfl (fun us => val_move rfl rfl) ?_
  refine Gw.val rfl rfl rfl rfl rfl (fun us => Val.cast (val_fieldAddr rfl Try.underlying24 rfl Try.ty3 rfl rfl) (v' := ptr b1 1) rfl) ?_
  refine Gw.val0 rfl rfl rfl (by kernel_rfl) rfl rfl (val_load rfl Try.ty3 rfl rfl (cell_rec (k := 0) rfl rfl)) ?_
  refine Gw.val rfl rfl rfl rfl rfl (fun us => val_nilCheck rfl rfl) ?_
  refine Gw.val rfl rfl rfl rfl rfl (fun us => Val.cast (val_fieldAddr rfl Try.underlying47 rfl Try.ty45 rfl rfl) (v' := ptr S 2) rfl) ?_
  refine Gw.val rfl rfl rfl rfl rfl (fun us => Val.cast (val_ixaA rfl Try.underlying45 Try.ty44 rfl rfl (j := 0) (rfl) (by omega)) (v' := ptr S 2) rfl) ?_
  refine Gw.val0 rfl rfl rfl (by kernel_rfl) rfl rfl (val_load rfl Try.ty44 rfl rfl (cell_rec (k := 1) rfl rfl)) ?_
  refine Gw.val rfl rfl rfl rfl rfl (fun us => Val.cast (val_fieldAddr rfl Try.underlying24 rfl Try.ty3 rfl rfl) (v' := ptr b1 2) rfl) ?_
  refine Gw.val0 rfl rfl rfl (by kernel_rfl) rfl rfl (val_load rfl Try.ty3 rfl rfl (cell_rec (k := 0) rfl rfl)) ?_
  refine Gw.val rfl rfl rfl rfl rfl (fun us => val_move rfl rfl) ?_
  refine Gw.done ?_
  refine Gx.norm (l' := [Hp.rec_ b1 [.int .i64 2, .int .i64 0, .int .i64 ((i : Nat) : Int), .int .i64 sr, .bool wr, .int .i64 val], Hp.rec_ S [cv, ov, .pointer none, nowV (mo.map Om.b) a1, nowV (mo.map Om.b) a2, nowV (mo.map Om.b) a3], Hp.own Fsd 3 cv cs, Hp.own FP 1 ov (mo.map Om.b), Hp.big opH mo, R]) rfl ?_
  refine Gx.drop 0 rfl ?_
  refine Gx.sepEq (l' := [regP S [none, a1, a2, a3] cv ov cs mo, R]) ((regP_shut (a0 := none) (a1 := a1) (a2 := a2) (a3 := a3)).trans (sep1 _ _).symm) ?_
  refine Gx.eff rfl rfl rfl (eff_call (vs := [ptr S 0, .pointer none, .int .i64 ((i : Nat) : Int), .int .i64 ((mom : Nat) : Int)]) rfl Try.fn15 rfl (fun w H => reach_nil H)) ?_
  rintro _ l2 ⟨rfl, hl2⟩
  refine Gx.sepEq (l' := [regP S [none, a1, a2, a3] cv ov cs mo, R]) hl2 ?_
  refine Gx.val rfl rfl rfl (val_assign rfl rfl) ?_
  refine Gx.done ?_
  refine Gx.thenN ?_
  refine Gx.ret ?_
  refine Gx.blkR ?_
  refine Gx.thenR ?_
  refine Gx.ret1 Try.results11 rfl ?_
  exact ⟨rfl, sep1 _ _⟩

theorem step_reach_seen0 {W w : World} {i : Nat} {S mom : Nat} {a1 a2 a3 : Option Nat} {cv ov : Value} {cs : List Sd} {mo : List Om} {R : Hp} {sr val : Int} {wr : Bool} {k : Nat} {m : Om} (hk : mo[k]? = some m) (hs : i ∈ m.o.seen) (hmk : mk m.o.seen < 4294967296) (hi : i < cs.length) (h5 : cs.length ≤ 5) (H : Sat W w (regP S [some k, a1, a2, a3] cv ov cs mo * R)) :
    Calls Try.prog 11 #[ptr S 0, .agg #[.int .i64 2, .int .i64 0, .int .i64 ((i : Nat) : Int), .int .i64 sr, .bool wr, .int .i64 val], .int .i64 ((mom : Nat) : Int)] w (Ret W fun v l => v = .int .i64 6 ∧ sep l = regP S [some k, a1, a2, a3] cv ov cs mo * R) := by
  refine Gx.enter (l := [Hp.rec_ S [cv, ov, ptr m.b 0, nowV (mo.map Om.b) a1, nowV (mo.map Om.b) a2, nowV (mo.map Om.b) a3], Hp.own Fsd 3 cv cs, Hp.own FP 1 ov (mo.map Om.b), Hp.big opH mo, R]) Try.func11 rfl Try.ntmps11 rfl ((by have e9 := regP_open H; rw [nowV_at hk] at e9; exact e9)) ?_
  refine Gx.know (m' := [(0, ptr S 0), (1, .agg #[.int .i64 2, .int .i64 0, .int .i64 ((i : Nat) : Int), .int .i64 sr, .bool wr, .int .i64 val]), (2, .int .i64 ((mom : Nat) : Int))]) (.cons rfl (.cons rfl (.cons rfl .nil))) ?_
  refine Gx.seq ?_
  refine Gx.region ?_
  refine Gx.eff rfl rfl rfl (eff_box rfl rfl (vs := [.int .i64 2, .int .i64 0, .int .i64 ((i : Nat) : Int), .int .i64 sr, .bool wr, .int .i64 val]) rfl) ?_
  rintro _ _ ⟨b1, rfl, rfl⟩
  refine Gx.val rfl rfl rfl (val_assign rfl rfl) ?_
  refine Gx.done ?_
  refine Gx.thenN ?_
  refine Gx.seq ?_
  refine Gx.seq ?_
  refine Gx.region ?_
  refine Gx.val rfl rfl rfl (Val.cast (val_fieldAddr rfl Try.underlying24 rfl Try.ty3 rfl rfl) (v' := ptr b1 0) rfl) ?_
  refine Gx.val rfl rfl rfl (val_load rfl Try.ty3 rfl rfl (cell_rec (k := 0) rfl rfl)) ?_
  refine Gx.val rfl rfl rfl (Val.cast (val_lss rfl rfl rfl) (v' := .bool false) rfl) ?_
  refine Gx.val rfl rfl rfl (val_move rfl rfl) ?_
  refine Gx.valg rfl rfl rfl rfl rfl (Val.cast (val_fieldAddr rfl Try.underlying24 rfl Try.ty3 rfl rfl) (v' := ptr b1 0) rfl) ?_
  refine Gx.valg rfl rfl rfl rfl rfl (val_load rfl Try.ty3 rfl rfl (cell_rec (k := 0) rfl rfl)) ?_
  refine Gx.valg rfl rfl rfl rfl rfl (Val.cast (val_gtr rfl rfl rfl) (v' := .bool false) rfl) ?_
  refine Gx.val rfl rfl rfl (val_pickF rfl rfl rfl) ?_
  refine Gx.done ?_
  refine Gx.thenN ?_
  refine Gx.f rfl ?_
  refine Gx.skip ?_
  refine Gx.thenN ?_
  refine Gx.seq ?_
  refine Gx.seq ?_
  refine Gx.regionQ Try.mixed (by kernel_rfl) ?_
  refine Gq.val rfl rfl rfl (Val.cast (val_fieldAddr rfl Try.underlying24 rfl Try.ty3 rfl rfl) (v' := ptr b1 0) rfl) ?_
  refine Gq.val rfl rfl rfl (val_load rfl Try.ty3 rfl rfl (cell_rec (k := 0) rfl rfl)) ?_
  refine Gq.val rfl rfl rfl (Val.cast (val_neq rfl rfl rfl) (v' := .bool true) rfl) ?_
  refine Gq.val rfl rfl rfl (val_move rfl rfl) ?_
  refine Gq.valg rfl rfl rfl rfl rfl (Val.cast (val_fieldAddr rfl Try.underlying24 rfl Try.ty3 rfl rfl) (v' := ptr b1 1) rfl) ?_
  refine Gq.valg rfl rfl rfl rfl rfl (val_load rfl Try.ty3 rfl rfl (cell_rec (k := 0) rfl rfl)) ?_
  refine Gq.valg rfl rfl rfl rfl rfl (Val.cast (val_lss rfl rfl rfl) (v' := .bool false) rfl) ?_
  refine Gq.valg rfl rfl rfl rfl rfl (val_move rfl rfl) ?_
  refine Gq.valg rfl rfl rfl rfl rfl (Val.cast (val_fieldAddr rfl Try.underlying24 rfl Try.ty3 rfl rfl) (v' := ptr b1 1) rfl) ?_
  refine Gq.valg rfl rfl rfl rfl rfl (val_load rfl Try.ty3 rfl rfl (cell_rec (k := 0) rfl rfl)) ?_
  refine Gq.valg rfl rfl rfl rfl rfl (Val.cast (val_geq rfl rfl rfl) (v' := .bool false) rfl) ?_
  refine Gq.valg rfl rfl rfl rfl rfl (val_pickF rfl rfl rfl) ?_
  refine Gq.val rfl rfl rfl (val_pickT rfl rfl rfl) ?_
  refine Gq.val rfl rfl rfl (val_move rfl rfl) ?_
  refine Gq.valg rfl rfl rfl rfl rfl (Val.cast (val_fieldAddr rfl Try.underlying24 rfl Try.ty3 rfl rfl) (v' := ptr b1 0) rfl) ?_
  refine Gq.valg rfl rfl rfl rfl rfl (val_load rfl Try.ty3 rfl rfl (cell_rec (k := 0) rfl rfl)) ?_
  refine Gq.valg rfl rfl rfl rfl rfl (Val.cast (val_neq rfl rfl rfl) (v' := .bool true) rfl) ?_
  refine Gq.valg rfl rfl rfl rfl rfl (val_move rfl rfl) ?_
  refine Gq.valg rfl rfl rfl rfl rfl (Val.cast (val_fieldAddr rfl Try.underlying24 rfl Try.ty3 rfl rfl) (v' := ptr b1 2) rfl) ?_
  refine Gq.valg rfl rfl rfl rfl rfl (val_load rfl Try.ty3 rfl rfl (cell_rec (k := 0) rfl rfl)) ?_
  refine Gq.valg rfl rfl rfl rfl rfl (val_lss rfl rfl rfl) ?_
  refine Gq.valg rfl rfl rfl rfl rfl (val_move rfl rfl) ?_
  refine Gq.slot (t := 36) (v := .bool false) (look_decF rfl (by omega)) ?_
  refine Gq.valg rfl rfl rfl rfl rfl (Val.cast (val_fieldAddr rfl Try.underlying24 rfl Try.ty3 rfl rfl) (v' := ptr b1 2) rfl) ?_
  refine Gq.valg rfl rfl rfl rfl rfl (val_load rfl Try.ty3 rfl rfl (cell_rec (k := 0) rfl rfl)) ?_
  refine Gq.valg rfl rfl rfl rfl rfl (val_move rfl rfl) ?_
  refine Gq.valg rfl rfl rfl rfl rfl (val_nilCheck rfl rfl) ?_
  refine Gq.valg rfl rfl rfl rfl rfl (Val.cast (val_fieldAddr rfl Try.underlying47 rfl Try.ty42 rfl rfl) (v' := ptr S 0) rfl) ?_
  refine Gq.valg rfl rfl rfl rfl rfl (val_load rfl Try.ty42 rfl rfl (cell_rec (k := 1) rfl rfl)) ?_
  refine Gq.valg rfl rfl rfl rfl rfl (val_len rfl Try.underlying42 rfl (len_own (k := 2) rfl)) ?_
  refine Gq.valg rfl rfl rfl rfl rfl (val_geq rfl rfl rfl) ?_
  refine Gq.valg rfl rfl rfl rfl rfl (val_pickF rfl rfl rfl) ?_
  refine Gq.valg rfl rfl rfl rfl rfl (val_pickT rfl rfl rfl) ?_
  refine Gq.val rfl rfl rfl (val_pickF rfl rfl rfl) ?_
  refine Gq.done ?_
  refine Gx.thenN ?_
  refine Gx.decF rfl (by omega) ?_
  refine Gx.skip ?_
  refine Gx.thenN ?_
  refine Gx.seq ?_
  refine Gx.seq ?_
  refine Gx.region ?_
  refine Gx.val rfl rfl rfl (Val.cast (val_fieldAddr rfl Try.underlying24 rfl Try.ty3 rfl rfl) (v' := ptr b1 0) rfl) ?_
  refine Gx.val rfl rfl rfl (val_load rfl Try.ty3 rfl rfl (cell_rec (k := 0) rfl rfl)) ?_
  refine Gx.done ?_
  refine Gx.thenN ?_
  refine Gx.block ?_
  refine Gx.seq ?_
  refine Gx.region ?_
  refine Gx.val rfl rfl rfl (Val.cast (val_eql rfl rfl rfl) (v' := .bool false) rfl) ?_
  refine Gx.val rfl rfl rfl (val_assign rfl rfl) ?_
  refine Gx.done ?_
  refine Gx.thenN ?_
  refine Gx.f rfl ?_
  refine Gx.seq ?_
  refine Gx.region ?_
  refine Gx.val rfl rfl rfl (Val.cast (val_eql rfl rfl rfl) (v' := .bool true) rfl) ?_
  refine Gx.val rfl rfl rfl (val_assign rfl rfl) ?_
  refine Gx.done ?_
  refine Gx.thenN ?_
  refine Gx.t rfl ?_
  refine Gx.seq ?_
  refine Gx.regionO (fun j => false) 11 [0, 1, 2, 3, 4, 5, 6, 7, 8, 9, 10] (fun _ => [Hp.rec_ b1 [.int .i64 2, .int .i64 0, .int .i64 ((i : Nat) : Int), .int .i64 sr, .bool wr, .int .i64 val], Hp.rec_ S [cv, ov, ptr m.b 0, nowV (mo.map Om.b) a1, nowV (mo.map Om.b) a2, nowV (mo.map Om.b) a3], Hp.own Fsd 3 cv cs, Hp.own FP 1 ov (mo.map Om.b), Hp.big opH mo, R]) Try.mixed (by kernel_rfl) rfl ?_
  refine Gw.val rfl rfl rfl rfl rfl (fun us => val_move rfl rfl) ?_
  refine Gw.val rfl rfl rfl rfl rfl (fun us => val_move rfl rfl) ?_
  refine Gw.val rfl rfl rfl rfl rfl (fun us => Val.cast (val_fieldAddr rfl Try.underlying24 rfl Try.ty3 rfl rfl) (v' := ptr b1 1) rfl) ?_
  refine Gw.val0 rfl rfl rfl (by kernel_rfl) rfl rfl (val_load rfl Try.ty3 rfl rfl (cell_rec (k := 0) rfl rfl)) ?_
  refine Gw.val rfl rfl rfl rfl rfl (fun us => val_nilCheck rfl rfl) ?_
  refine Gw.val rfl rfl rfl rfl rfl (fun us => Val.cast (val_fieldAddr rfl Try.underlying47 rfl Try.ty45 rfl rfl) (v' := ptr S 2) rfl) ?_
  refine Gw.val rfl rfl rfl rfl rfl (fun us => Val.cast (val_ixaA rfl Try.underlying45 Try.ty44 rfl rfl (j := 0) (rfl) (by omega)) (v' := ptr S 2) rfl) ?_
  refine Gw.val0 rfl rfl rfl (by kernel_rfl) rfl rfl (val_load rfl Try.ty44 rfl rfl (cell_rec (k := 1) rfl rfl)) ?_
  refine Gw.val rfl rfl rfl rfl rfl (fun us => Val.cast (val_fieldAddr rfl Try.underlying24 rfl Try.ty3 rfl rfl) (v' := ptr b1 2) rfl) ?_
  refine Gw.val0 rfl rfl rfl (by kernel_rfl) rfl rfl (val_load rfl Try.ty3 rfl rfl (cell_rec (k := 0) rfl rfl)) ?_
  refine Gw.val rfl rfl rfl rfl rfl (fun us => val_move rfl rfl) ?_
  refine Gw.done ?_
  refine Gx.norm (l' := [Hp.rec_ b1 [.int .i64 2, .int .i64 0, .int .i64 ((i : Nat) : Int), .int .i64 sr, .bool wr, .int .i64 val], Hp.rec_ S [cv, ov, ptr m.b 0, nowV (mo.map Om.b) a1, nowV (mo.map Om.b) a2, nowV (mo.map Om.b) a3], Hp.own Fsd 3 cv cs, Hp.own FP 1 ov (mo.map Om.b), Hp.big opH mo, R]) rfl ?_
  refine Gx.drop 0 rfl ?_
  refine Gx.sepEq (l' := [regP S [some k, a1, a2, a3] cv ov cs mo, R]) (by have e9 := regP_shut (S := S) (cv := cv) (ov := ov) (cs := cs) (mo := mo) (R := R) (a0 := some k) (a1 := a1) (a2 := a2) (a3 := a3); rw [nowV_at hk] at e9; exact e9.trans (sep1 _ _).symm) ?_
  refine Gx.eff rfl rfl rfl (eff_call (vs := [ptr S 0, ptr m.b 0, .int .i64 ((i : Nat) : Int), .int .i64 ((mom : Nat) : Int)]) rfl Try.fn15 rfl (fun w H => reach_seen hk hs (by omega) hmk (H.at_ (k := 0) rfl))) ?_
  rintro _ l2 ⟨rfl, hl2⟩
  refine Gx.sepEq (l' := [regP S [some k, a1, a2, a3] cv ov cs mo, R]) hl2 ?_
  refine Gx.val rfl rfl rfl (val_assign rfl rfl) ?_
  refine Gx.done ?_
  refine Gx.thenN ?_
  refine Gx.ret ?_
  refine Gx.blkR ?_
  refine Gx.thenR ?_
  refine Gx.ret1 Try.results11 rfl ?_
  exact ⟨rfl, sep1 _ _⟩

theorem step_reach_go0 {W w : World} {i : Nat} {S mom : Nat} {a1 a2 a3 : Option Nat} {cv ov : Value} {cs : List Sd} {mo : List Om} {R : Hp} {sr val : Int} {wr : Bool} {k : Nat} {m : Om} (hk : mo[k]? = some m) (hw : m.o.who = 0) (hs : ¬ i ∈ m.o.seen) (hmk : mk m.o.seen < 4294967296) (hmany : m.o.many ≤ 5) (hbn : m.o.best.n ≤ 1000) (hcn : ∀ c ∈ cs, c.n ≤ 1000) (hi : i < cs.length) (h5 : cs.length ≤ 5) (H : Sat W w (regP S [some k, a1, a2, a3] cv ov cs mo * R)) :
    Calls Try.prog 11 #[ptr S 0, .agg #[.int .i64 2, .int .i64 0, .int .i64 ((i : Nat) : Int), .int .i64 sr, .bool wr, .int .i64 val], .int .i64 ((mom : Nat) : Int)] w (Ret W fun v l => v = .int .i64 0 ∧ sep l = regP S (if 2 * (m.o.many + 1) ≤ cs.length then [some k, a1, a2, a3] else if m.o.sec = true then [none, a1, a2, a3] else [some k, a1, a2, a3]) cv ov (if m.o.sec = true then storeR cs i m.o.best else cs) (mo.set k ⟨m.b, m.b2, if 2 * (m.o.many + 1) ≤ cs.length then seeR cs i m.o else turnO (seeR cs i m.o) mom⟩) * R) := by
  refine Gx.enter (l := [Hp.rec_ S [cv, ov, ptr m.b 0, nowV (mo.map Om.b) a1, nowV (mo.map Om.b) a2, nowV (mo.map Om.b) a3], Hp.own Fsd 3 cv cs, Hp.own FP 1 ov (mo.map Om.b), Hp.big opH mo, R]) Try.func11 rfl Try.ntmps11 rfl ((by have e9 := regP_open H; rw [nowV_at hk] at e9; exact e9)) ?_
  refine Gx.know (m' := [(0, ptr S 0), (1, .agg #[.int .i64 2, .int .i64 0, .int .i64 ((i : Nat) : Int), .int .i64 sr, .bool wr, .int .i64 val]), (2, .int .i64 ((mom : Nat) : Int))]) (.cons rfl (.cons rfl (.cons rfl .nil))) ?_
  refine Gx.seq ?_
  refine Gx.region ?_
  refine Gx.eff rfl rfl rfl (eff_box rfl rfl (vs := [.int .i64 2, .int .i64 0, .int .i64 ((i : Nat) : Int), .int .i64 sr, .bool wr, .int .i64 val]) rfl) ?_
  rintro _ _ ⟨b1, rfl, rfl⟩
  refine Gx.val rfl rfl rfl (val_assign rfl rfl) ?_
  refine Gx.done ?_
  refine Gx.thenN ?_
  refine Gx.seq ?_
  refine Gx.seq ?_
  refine Gx.region ?_
  refine Gx.val rfl rfl rfl (Val.cast (val_fieldAddr rfl Try.underlying24 rfl Try.ty3 rfl rfl) (v' := ptr b1 0) rfl) ?_
  refine Gx.val rfl rfl rfl (val_load rfl Try.ty3 rfl rfl (cell_rec (k := 0) rfl rfl)) ?_
  refine Gx.val rfl rfl rfl (Val.cast (val_lss rfl rfl rfl) (v' := .bool false) rfl) ?_
  refine Gx.val rfl rfl rfl (val_move rfl rfl) ?_
  refine Gx.valg rfl rfl rfl rfl rfl (Val.cast (val_fieldAddr rfl Try.underlying24 rfl Try.ty3 rfl rfl) (v' := ptr b1 0) rfl) ?_
  refine Gx.valg rfl rfl rfl rfl rfl (val_load rfl Try.ty3 rfl rfl (cell_rec (k := 0) rfl rfl)) ?_
  refine Gx.valg rfl rfl rfl rfl rfl (Val.cast (val_gtr rfl rfl rfl) (v' := .bool false) rfl) ?_
  refine Gx.val rfl rfl rfl (val_pickF rfl rfl rfl) ?_
  refine Gx.done ?_
  refine Gx.thenN ?_
  refine Gx.f rfl ?_
  refine Gx.skip ?_
  refine Gx.thenN ?_
  refine Gx.seq ?_
  refine Gx.seq ?_
  refine Gx.regionQ Try.mixed (by kernel_rfl) ?_
  refine Gq.val rfl rfl rfl (Val.cast (val_fieldAddr rfl Try.underlying24 rfl Try.ty3 rfl rfl) (v' := ptr b1 0) rfl) ?_
  refine Gq.val rfl rfl rfl (val_load rfl Try.ty3 rfl rfl (cell_rec (k := 0) rfl rfl)) ?_
  refine Gq.val rfl rfl rfl (Val.cast (val_neq rfl rfl rfl) (v' := .bool true) rfl) ?_
  refine Gq.val rfl rfl rfl (val_move rfl rfl) ?_
  refine Gq.valg rfl rfl rfl rfl rfl (Val.cast (val_fieldAddr rfl Try.underlying24 rfl Try.ty3 rfl rfl) (v' := ptr b1 1) rfl) ?_
  refine Gq.valg rfl rfl rfl rfl rfl (val_load rfl Try.ty3 rfl rfl (cell_rec (k := 0) rfl rfl)) ?_
  refine Gq.valg rfl rfl rfl rfl rfl (Val.cast (val_lss rfl rfl rfl) (v' := .bool false) rfl) ?_
  refine Gq.valg rfl rfl rfl rfl rfl (val_move rfl rfl) ?_
  refine Gq.valg rfl rfl rfl rfl rfl (Val.cast (val_fieldAddr rfl Try.underlying24 rfl Try.ty3 rfl rfl) (v' := ptr b1 1) rfl) ?_
  refine Gq.valg rfl rfl rfl rfl rfl (val_load rfl Try.ty3 rfl rfl (cell_rec (k := 0) rfl rfl)) ?_
  refine Gq.valg rfl rfl rfl rfl rfl (Val.cast (val_geq rfl rfl rfl) (v' := .bool false) rfl) ?_
  refine Gq.valg rfl rfl rfl rfl rfl (val_pickF rfl rfl rfl) ?_
  refine Gq.val rfl rfl rfl (val_pickT rfl rfl rfl) ?_
  refine Gq.val rfl rfl rfl (val_move rfl rfl) ?_
  refine Gq.valg rfl rfl rfl rfl rfl (Val.cast (val_fieldAddr rfl Try.underlying24 rfl Try.ty3 rfl rfl) (v' := ptr b1 0) rfl) ?_
  refine Gq.valg rfl rfl rfl rfl rfl (val_load rfl Try.ty3 rfl rfl (cell_rec (k := 0) rfl rfl)) ?_
  refine Gq.valg rfl rfl rfl rfl rfl (Val.cast (val_neq rfl rfl rfl) (v' := .bool true) rfl) ?_
  refine Gq.valg rfl rfl rfl rfl rfl (val_move rfl rfl) ?_
  refine Gq.valg rfl rfl rfl rfl rfl (Val.cast (val_fieldAddr rfl Try.underlying24 rfl Try.ty3 rfl rfl) (v' := ptr b1 2) rfl) ?_
  refine Gq.valg rfl rfl rfl rfl rfl (val_load rfl Try.ty3 rfl rfl (cell_rec (k := 0) rfl rfl)) ?_
  refine Gq.valg rfl rfl rfl rfl rfl (val_lss rfl rfl rfl) ?_
  refine Gq.valg rfl rfl rfl rfl rfl (val_move rfl rfl) ?_
  refine Gq.slot (t := 36) (v := .bool false) (look_decF rfl (by omega)) ?_
  refine Gq.valg rfl rfl rfl rfl rfl (Val.cast (val_fieldAddr rfl Try.underlying24 rfl Try.ty3 rfl rfl) (v' := ptr b1 2) rfl) ?_
  refine Gq.valg rfl rfl rfl rfl rfl (val_load rfl Try.ty3 rfl rfl (cell_rec (k := 0) rfl rfl)) ?_
  refine Gq.valg rfl rfl rfl rfl rfl (val_move rfl rfl) ?_
  refine Gq.valg rfl rfl rfl rfl rfl (val_nilCheck rfl rfl) ?_
  refine Gq.valg rfl rfl rfl rfl rfl (Val.cast (val_fieldAddr rfl Try.underlying47 rfl Try.ty42 rfl rfl) (v' := ptr S 0) rfl) ?_
  refine Gq.valg rfl rfl rfl rfl rfl (val_load rfl Try.ty42 rfl rfl (cell_rec (k := 1) rfl rfl)) ?_
  refine Gq.valg rfl rfl rfl rfl rfl (val_len rfl Try.underlying42 rfl (len_own (k := 2) rfl)) ?_
  refine Gq.valg rfl rfl rfl rfl rfl (val_geq rfl rfl rfl) ?_
  refine Gq.valg rfl rfl rfl rfl rfl (val_pickF rfl rfl rfl) ?_
  refine Gq.valg rfl rfl rfl rfl rfl (val_pickT rfl rfl rfl) ?_
  refine Gq.val rfl rfl rfl (val_pickF rfl rfl rfl) ?_
  refine Gq.done ?_
  refine Gx.thenN ?_
  refine Gx.decF rfl (by omega) ?_
  refine Gx.skip ?_
  refine Gx.thenN ?_
  refine Gx.seq ?_
  refine Gx.seq ?_
  refine Gx.region ?_
  refine Gx.val rfl rfl rfl (Val.cast (val_fieldAddr rfl Try.underlying24 rfl Try.ty3 rfl rfl) (v' := ptr b1 0) rfl) ?_
  refine Gx.val rfl rfl rfl (val_load rfl Try.ty3 rfl rfl (cell_rec (k := 0) rfl rfl)) ?_
  refine Gx.done ?_
  refine Gx.thenN ?_
  refine Gx.block ?_
  refine Gx.seq ?_
  refine Gx.region ?_
  refine Gx.val rfl rfl rfl (Val.cast (val_eql rfl rfl rfl) (v' := .bool false) rfl) ?_
  refine Gx.val rfl rfl rfl (val_assign rfl rfl) ?_
  refine Gx.done ?_
  refine Gx.thenN ?_
  refine Gx.f rfl ?_
  refine Gx.seq ?_
  refine Gx.region ?_
  refine Gx.val rfl rfl rfl (Val.cast (val_eql rfl rfl rfl) (v' := .bool true) rfl) ?_
  refine Gx.val rfl rfl rfl (val_assign rfl rfl) ?_
  refine Gx.done ?_
  refine Gx.thenN ?_
  refine Gx.t rfl ?_
  refine Gx.seq ?_
  refine Gx.regionO (fun j => false) 11 [0, 1, 2, 3, 4, 5, 6, 7, 8, 9, 10] (fun _ => [Hp.rec_ b1 [.int .i64 2, .int .i64 0, .int .i64 ((i : Nat) : Int), .int .i64 sr, .bool wr, .int .i64 val], Hp.rec_ S [cv, ov, ptr m.b 0, nowV (mo.map Om.b) a1, nowV (mo.map Om.b) a2, nowV (mo.map Om.b) a3], Hp.own Fsd 3 cv cs, Hp.own FP 1 ov (mo.map Om.b), Hp.big opH mo, R]) Try.mixed (by kernel_rfl) rfl ?_
  refine Gw.val rfl rfl rfl rfl rfl (fun us => val_move rfl rfl) ?_
  refine Gw.val rfl rfl rfl rfl rfl (fun us => val_move rfl rfl) ?_
  refine Gw.val rfl rfl rfl rfl rfl (fun us => Val.cast (val_fieldAddr rfl Try.underlying24 rfl Try.ty3 rfl rfl) (v' := ptr b1 1) rfl) ?_
  refine Gw.val0 rfl rfl rfl (by kernel_rfl) rfl rfl (val_load rfl Try.ty3 rfl rfl (cell_rec (k := 0) rfl rfl)) ?_
  refine Gw.val rfl rfl rfl rfl rfl (fun us => val_nilCheck rfl rfl) ?_
  refine Gw.val rfl rfl rfl rfl rfl (fun us => Val.cast (val_fieldAddr rfl Try.underlying47 rfl Try.ty45 rfl rfl) (v' := ptr S 2) rfl) ?_
  refine Gw.val rfl rfl rfl rfl rfl (fun us => Val.cast (val_ixaA rfl Try.underlying45 Try.ty44 rfl rfl (j := 0) (rfl) (by omega)) (v' := ptr S 2) rfl) ?_
  refine Gw.val0 rfl rfl rfl (by kernel_rfl) rfl rfl (val_load rfl Try.ty44 rfl rfl (cell_rec (k := 1) rfl rfl)) ?_
  refine Gw.val rfl rfl rfl rfl rfl (fun us => Val.cast (val_fieldAddr rfl Try.underlying24 rfl Try.ty3 rfl rfl) (v' := ptr b1 2) rfl) ?_
  refine Gw.val0 rfl rfl rfl (by kernel_rfl) rfl rfl (val_load rfl Try.ty3 rfl rfl (cell_rec (k := 0) rfl rfl)) ?_
  refine Gw.val rfl rfl rfl rfl rfl (fun us => val_move rfl rfl) ?_
  refine Gw.done ?_
  refine Gx.norm (l' := [Hp.rec_ b1 [.int .i64 2, .int .i64 0, .int .i64 ((i : Nat) : Int), .int .i64 sr, .bool wr, .int .i64 val], Hp.rec_ S [cv, ov, ptr m.b 0, nowV (mo.map Om.b) a1, nowV (mo.map Om.b) a2, nowV (mo.map Om.b) a3], Hp.own Fsd 3 cv cs, Hp.own FP 1 ov (mo.map Om.b), Hp.big opH mo, R]) rfl ?_
  refine Gx.drop 0 rfl ?_
  refine Gx.sepEq (l' := [regP S [some k, a1, a2, a3] cv ov cs mo, R]) (by have e9 := regP_shut (S := S) (cv := cv) (ov := ov) (cs := cs) (mo := mo) (R := R) (a0 := some k) (a1 := a1) (a2 := a2) (a3 := a3); rw [nowV_at hk] at e9; exact e9.trans (sep1 _ _).symm) ?_
  refine Gx.eff rfl rfl rfl (eff_call (vs := [ptr S 0, ptr m.b 0, .int .i64 ((i : Nat) : Int), .int .i64 ((mom : Nat) : Int)]) rfl Try.fn15 rfl (fun w H => reach_go0 hk hw hi hs h5 hmk hmany hbn hcn (H.at_ (k := 0) rfl))) ?_
  rintro _ l2 ⟨rfl, hl2⟩
  refine Gx.sepEq (l' := [regP S (if 2 * (m.o.many + 1) ≤ cs.length then [some k, a1, a2, a3] else if m.o.sec = true then [none, a1, a2, a3] else [some k, a1, a2, a3]) cv ov (if m.o.sec = true then storeR cs i m.o.best else cs) (mo.set k ⟨m.b, m.b2, if 2 * (m.o.many + 1) ≤ cs.length then seeR cs i m.o else turnO (seeR cs i m.o) mom⟩), R]) hl2 ?_
  refine Gx.val rfl rfl rfl (val_assign rfl rfl) ?_
  refine Gx.done ?_
  refine Gx.thenN ?_
  refine Gx.ret ?_
  refine Gx.blkR ?_
  refine Gx.thenR ?_
  refine Gx.ret1 Try.results11 rfl ?_
  exact ⟨rfl, sep1 _ _⟩

theorem step_begin_no1 {W w : World} {S mom : Nat} {a0 a2 a3 : Option Nat} {cv ov : Value} {cs : List Sd} {mo : List Om} {R : Hp} {k : Nat} {lo sr val : Int} {wr : Bool}  (H : Sat W w (regP S [a0, some k, a2, a3] cv ov cs mo * R)) :
    Calls Try.prog 11 #[ptr S 0, .agg #[.int .i64 1, .int .i64 1, .int .i64 lo, .int .i64 sr, .bool wr, .int .i64 val], .int .i64 ((mom : Nat) : Int)] w (Ret W fun v l => v = .int .i64 6 ∧ sep l = regP S [a0, some k, a2, a3] cv ov cs mo * R) := by
  refine Gx.enter (l := [regP S [a0, some k, a2, a3] cv ov cs mo, R]) Try.func11 rfl Try.ntmps11 rfl (H.frame1) ?_
  refine Gx.know (m' := [(0, ptr S 0), (1, .agg #[.int .i64 1, .int .i64 1, .int .i64 lo, .int .i64 sr, .bool wr, .int .i64 val]), (2, .int .i64 ((mom : Nat) : Int))]) (.cons rfl (.cons rfl (.cons rfl .nil))) ?_
  refine Gx.seq ?_
  refine Gx.region ?_
  refine Gx.eff rfl rfl rfl (eff_box rfl rfl (vs := [.int .i64 1, .int .i64 1, .int .i64 lo, .int .i64 sr, .bool wr, .int .i64 val]) rfl) ?_
  rintro _ _ ⟨b1, rfl, rfl⟩
  refine Gx.val rfl rfl rfl (val_assign rfl rfl) ?_
  refine Gx.done ?_
  refine Gx.thenN ?_
  refine Gx.seq ?_
  refine Gx.seq ?_
  refine Gx.region ?_
  refine Gx.val rfl rfl rfl (Val.cast (val_fieldAddr rfl Try.underlying24 rfl Try.ty3 rfl rfl) (v' := ptr b1 0) rfl) ?_
  refine Gx.val rfl rfl rfl (val_load rfl Try.ty3 rfl rfl (cell_rec (k := 0) rfl rfl)) ?_
  refine Gx.val rfl rfl rfl (Val.cast (val_lss rfl rfl rfl) (v' := .bool false) rfl) ?_
  refine Gx.val rfl rfl rfl (val_move rfl rfl) ?_
  refine Gx.valg rfl rfl rfl rfl rfl (Val.cast (val_fieldAddr rfl Try.underlying24 rfl Try.ty3 rfl rfl) (v' := ptr b1 0) rfl) ?_
  refine Gx.valg rfl rfl rfl rfl rfl (val_load rfl Try.ty3 rfl rfl (cell_rec (k := 0) rfl rfl)) ?_
  refine Gx.valg rfl rfl rfl rfl rfl (Val.cast (val_gtr rfl rfl rfl) (v' := .bool false) rfl) ?_
  refine Gx.val rfl rfl rfl (val_pickF rfl rfl rfl) ?_
  refine Gx.done ?_
  refine Gx.thenN ?_
  refine Gx.f rfl ?_
  refine Gx.skip ?_
  refine Gx.thenN ?_
  refine Gx.seq ?_
  refine Gx.seq ?_
  refine Gx.regionQ Try.mixed (by kernel_rfl) ?_
  refine Gq.val rfl rfl rfl (Val.cast (val_fieldAddr rfl Try.underlying24 rfl Try.ty3 rfl rfl) (v' := ptr b1 0) rfl) ?_
  refine Gq.val rfl rfl rfl (val_load rfl Try.ty3 rfl rfl (cell_rec (k := 0) rfl rfl)) ?_
  refine Gq.val rfl rfl rfl (Val.cast (val_neq rfl rfl rfl) (v' := .bool true) rfl) ?_
  refine Gq.val rfl rfl rfl (val_move rfl rfl) ?_
  refine Gq.valg rfl rfl rfl rfl rfl (Val.cast (val_fieldAddr rfl Try.underlying24 rfl Try.ty3 rfl rfl) (v' := ptr b1 1) rfl) ?_
  refine Gq.valg rfl rfl rfl rfl rfl (val_load rfl Try.ty3 rfl rfl (cell_rec (k := 0) rfl rfl)) ?_
  refine Gq.valg rfl rfl rfl rfl rfl (Val.cast (val_lss rfl rfl rfl) (v' := .bool false) rfl) ?_
  refine Gq.valg rfl rfl rfl rfl rfl (val_move rfl rfl) ?_
  refine Gq.valg rfl rfl rfl rfl rfl (Val.cast (val_fieldAddr rfl Try.underlying24 rfl Try.ty3 rfl rfl) (v' := ptr b1 1) rfl) ?_
  refine Gq.valg rfl rfl rfl rfl rfl (val_load rfl Try.ty3 rfl rfl (cell_rec (k := 0) rfl rfl)) ?_
  refine Gq.valg rfl rfl rfl rfl rfl (Val.cast (val_geq rfl rfl rfl) (v' := .bool false) rfl) ?_
  refine Gq.valg rfl rfl rfl rfl rfl (val_pickF rfl rfl rfl) ?_
  refine Gq.val rfl rfl rfl (val_pickT rfl rfl rfl) ?_
  refine Gq.val rfl rfl rfl (val_move rfl rfl) ?_
  refine Gq.valg rfl rfl rfl rfl rfl (Val.cast (val_fieldAddr rfl Try.underlying24 rfl Try.ty3 rfl rfl) (v' := ptr b1 0) rfl) ?_
  refine Gq.valg rfl rfl rfl rfl rfl (val_load rfl Try.ty3 rfl rfl (cell_rec (k := 0) rfl rfl)) ?_
  refine Gq.valg rfl rfl rfl rfl rfl (Val.cast (val_neq rfl rfl rfl) (v' := .bool false) rfl) ?_
  refine Gq.valg rfl rfl rfl rfl rfl (val_move rfl rfl) ?_
  refine Gq.skipg rfl rfl rfl rfl rfl rfl ?_
  refine Gq.skipg rfl rfl rfl rfl rfl rfl ?_
  refine Gq.skipg rfl rfl rfl rfl rfl rfl ?_
  refine Gq.skipg rfl rfl rfl rfl rfl rfl ?_
  refine Gq.skipu rfl rfl rfl rfl rfl ?_
  refine Gq.skipu rfl rfl rfl rfl rfl ?_
  refine Gq.skipu rfl rfl rfl rfl rfl ?_
  refine Gq.skipu rfl rfl rfl rfl rfl ?_
  refine Gq.skipu rfl rfl rfl rfl rfl ?_
  refine Gq.skipu rfl rfl rfl rfl rfl ?_
  refine Gq.skipu rfl rfl rfl rfl rfl ?_
  refine Gq.skipu rfl rfl rfl rfl rfl ?_
  refine Gq.skipg rfl rfl rfl rfl rfl rfl ?_
  refine Gq.valg rfl rfl rfl rfl rfl (val_pickF rfl rfl rfl) ?_
  refine Gq.val rfl rfl rfl (val_pickF rfl rfl rfl) ?_
  refine Gq.done ?_
  refine Gx.thenN ?_
  refine Gx.f rfl ?_
  refine Gx.skip ?_
  refine Gx.thenN ?_
  refine Gx.seq ?_
  refine Gx.seq ?_
  refine Gx.region ?_
  refine Gx.val rfl rfl rfl (Val.cast (val_fieldAddr rfl Try.underlying24 rfl Try.ty3 rfl rfl) (v' := ptr b1 0) rfl) ?_
  refine Gx.val rfl rfl rfl (val_load rfl Try.ty3 rfl rfl (cell_rec (k := 0) rfl rfl)) ?_
  refine Gx.done ?_
  refine Gx.thenN ?_
  refine Gx.block ?_
  refine Gx.seq ?_
  refine Gx.region ?_
  refine Gx.val rfl rfl rfl (Val.cast (val_eql rfl rfl rfl) (v' := .bool true) rfl) ?_
  refine Gx.val rfl rfl rfl (val_assign rfl rfl) ?_
  refine Gx.done ?_
  refine Gx.thenN ?_
  refine Gx.t rfl ?_
  refine Gx.seq ?_
  refine Gx.region ?_
  refine Gx.val rfl rfl rfl (val_move rfl rfl) ?_
  refine Gx.val rfl rfl rfl (Val.cast (val_loadA rfl Try.ty24 rfl rfl rfl (cells_rec (k := 0) rfl)) (v' := .agg #[.int .i64 1, .int .i64 1, .int .i64 lo, .int .i64 sr, .bool wr, .int .i64 val]) rfl) ?_
  refine Gx.val rfl rfl rfl (val_move rfl rfl) ?_
  refine Gx.eff rfl rfl rfl (eff_call (vs := [ptr S 0, .agg #[.int .i64 1, .int .i64 1, .int .i64 lo, .int .i64 sr, .bool wr, .int .i64 val], .int .i64 ((mom : Nat) : Int)]) rfl Try.fn14 rfl (fun w H => begin_no1 (H.at_ (k := 1) rfl))) ?_
  rintro _ l2 ⟨rfl, hl2⟩
  refine Gx.sepEq (l' := [regP S [a0, some k, a2, a3] cv ov cs mo, Hp.rec_ b1 [.int .i64 1, .int .i64 1, .int .i64 lo, .int .i64 sr, .bool wr, .int .i64 val], R]) hl2 ?_
  refine Gx.val rfl rfl rfl (val_assign rfl rfl) ?_
  refine Gx.done ?_
  refine Gx.thenN ?_
  refine Gx.ret ?_
  refine Gx.blkR ?_
  refine Gx.thenR ?_
  refine Gx.drop 1 rfl ?_
  refine Gx.ret1 Try.results11 rfl ?_
  exact ⟨rfl, sep1 _ _⟩

theorem step_begin1 {W w : World} {S mom : Nat} {a0 a2 a3 : Option Nat} {cv ov : Value} {cs : List Sd} {mo : List Om} {R : Hp}  {lo sr val : Int} {wr : Bool} (h0 : ∀ k, a0 = some k → k < mo.length) (h2 : ∀ k, a2 = some k → k < mo.length) (h3 : ∀ k, a3 = some k → k < mo.length) (hml : mo.length ≤ 1000) (H : Sat W w (regP S [a0, none, a2, a3] cv ov cs mo * R)) :
    Calls Try.prog 11 #[ptr S 0, .agg #[.int .i64 1, .int .i64 1, .int .i64 lo, .int .i64 sr, .bool wr, .int .i64 val], .int .i64 ((mom : Nat) : Int)] w (Ret W fun v l => ∃ (b b2 : Nat) (ov' : Value), v = .int .i64 0 ∧ sep l = regP S [a0, some mo.length, a2, a3] cv ov' cs (mo ++ [(⟨b, b2, newO 1 wr val mom⟩ : Om)]) * R) := by
  refine Gx.enter (l := [regP S [a0, none, a2, a3] cv ov cs mo, R]) Try.func11 rfl Try.ntmps11 rfl (H.frame1) ?_
  refine Gx.know (m' := [(0, ptr S 0), (1, .agg #[.int .i64 1, .int .i64 1, .int .i64 lo, .int .i64 sr, .bool wr, .int .i64 val]), (2, .int .i64 ((mom : Nat) : Int))]) (.cons rfl (.cons rfl (.cons rfl .nil))) ?_
  refine Gx.seq ?_
  refine Gx.region ?_
  refine Gx.eff rfl rfl rfl (eff_box rfl rfl (vs := [.int .i64 1, .int .i64 1, .int .i64 lo, .int .i64 sr, .bool wr, .int .i64 val]) rfl) ?_
  rintro _ _ ⟨b1, rfl, rfl⟩
  refine Gx.val rfl rfl rfl (val_assign rfl rfl) ?_
  refine Gx.done ?_
  refine Gx.thenN ?_
  refine Gx.seq ?_
  refine Gx.seq ?_
  refine Gx.region ?_
  refine Gx.val rfl rfl rfl (Val.cast (val_fieldAddr rfl Try.underlying24 rfl Try.ty3 rfl rfl) (v' := ptr b1 0) rfl) ?_
  refine Gx.val rfl rfl rfl (val_load rfl Try.ty3 rfl rfl (cell_rec (k := 0) rfl rfl)) ?_
  refine Gx.val rfl rfl rfl (Val.cast (val_lss rfl rfl rfl) (v' := .bool false) rfl) ?_
  refine Gx.val rfl rfl rfl (val_move rfl rfl) ?_
  refine Gx.valg rfl rfl rfl rfl rfl (Val.cast (val_fieldAddr rfl Try.underlying24 rfl Try.ty3 rfl rfl) (v' := ptr b1 0) rfl) ?_
  refine Gx.valg rfl rfl rfl rfl rfl (val_load rfl Try.ty3 rfl rfl (cell_rec (k := 0) rfl rfl)) ?_
  refine Gx.valg rfl rfl rfl rfl rfl (Val.cast (val_gtr rfl rfl rfl) (v' := .bool false) rfl) ?_
  refine Gx.val rfl rfl rfl (val_pickF rfl rfl rfl) ?_
  refine Gx.done ?_
  refine Gx.thenN ?_
  refine Gx.f rfl ?_
  refine Gx.skip ?_
  refine Gx.thenN ?_
  refine Gx.seq ?_
  refine Gx.seq ?_
  refine Gx.regionQ Try.mixed (by kernel_rfl) ?_
  refine Gq.val rfl rfl rfl (Val.cast (val_fieldAddr rfl Try.underlying24 rfl Try.ty3 rfl rfl) (v' := ptr b1 0) rfl) ?_
  refine Gq.val rfl rfl rfl (val_load rfl Try.ty3 rfl rfl (cell_rec (k := 0) rfl rfl)) ?_
  refine Gq.val rfl rfl rfl (Val.cast (val_neq rfl rfl rfl) (v' := .bool true) rfl) ?_
  refine Gq.val rfl rfl rfl (val_move rfl rfl) ?_
  refine Gq.valg rfl rfl rfl rfl rfl (Val.cast (val_fieldAddr rfl Try.underlying24 rfl Try.ty3 rfl rfl) (v' := ptr b1 1) rfl) ?_
  refine Gq.valg rfl rfl rfl rfl rfl (val_load rfl Try.ty3 rfl rfl (cell_rec (k := 0) rfl rfl)) ?_
  refine Gq.valg rfl rfl rfl rfl rfl (Val.cast (val_lss rfl rfl rfl) (v' := .bool false) rfl) ?_
  refine Gq.valg rfl rfl rfl rfl rfl (val_move rfl rfl) ?_
  refine Gq.valg rfl rfl rfl rfl rfl (Val.cast (val_fieldAddr rfl Try.underlying24 rfl Try.ty3 rfl rfl) (v' := ptr b1 1) rfl) ?_
  refine Gq.valg rfl rfl rfl rfl rfl (val_load rfl Try.ty3 rfl rfl (cell_rec (k := 0) rfl rfl)) ?_
  refine Gq.valg rfl rfl rfl rfl rfl (Val.cast (val_geq rfl rfl rfl) (v' := .bool false) rfl) ?_
  refine Gq.valg rfl rfl rfl rfl rfl (val_pickF rfl rfl rfl) ?_
  refine Gq.val rfl rfl rfl (val_pickT rfl rfl rfl) ?_
  refine Gq.val rfl rfl rfl (val_move rfl rfl) ?_
  refine Gq.valg rfl rfl rfl rfl rfl (Val.cast (val_fieldAddr rfl Try.underlying24 rfl Try.ty3 rfl rfl) (v' := ptr b1 0) rfl) ?_
  refine Gq.valg rfl rfl rfl rfl rfl (val_load rfl Try.ty3 rfl rfl (cell_rec (k := 0) rfl rfl)) ?_
  refine Gq.valg rfl rfl rfl rfl rfl (Val.cast (val_neq rfl rfl rfl) (v' := .bool false) rfl) ?_
  refine Gq.valg rfl rfl rfl rfl rfl (val_move rfl rfl) ?_
  refine Gq.skipg rfl rfl rfl rfl rfl rfl ?_
  refine Gq.skipg rfl rfl rfl rfl rfl rfl ?_
  refine Gq.skipg rfl rfl rfl rfl rfl rfl ?_
  refine Gq.skipg rfl rfl rfl rfl rfl rfl ?_
  refine Gq.skipu rfl rfl rfl rfl rfl ?_
  refine Gq.skipu rfl rfl rfl rfl rfl ?_
  refine Gq.skipu rfl rfl rfl rfl rfl ?_
  refine Gq.skipu rfl rfl rfl rfl rfl ?_
  refine Gq.skipu rfl rfl rfl rfl rfl ?_
  refine Gq.skipu rfl rfl rfl rfl rfl ?_
  refine Gq.skipu rfl rfl rfl rfl rfl ?_
  refine Gq.skipu rfl rfl rfl rfl rfl ?_
  refine Gq.skipg rfl rfl rfl rfl rfl rfl ?_
  refine Gq.valg rfl rfl rfl rfl rfl (val_pickF rfl rfl rfl) ?_
  refine Gq.val rfl rfl rfl (val_pickF rfl rfl rfl) ?_
  refine Gq.done ?_
  refine Gx.thenN ?_
  refine Gx.f rfl ?_
  refine Gx.skip ?_
  refine Gx.thenN ?_
  refine Gx.seq ?_
  refine Gx.seq ?_
  refine Gx.region ?_
  refine Gx.val rfl rfl rfl (Val.cast (val_fieldAddr rfl Try.underlying24 rfl Try.ty3 rfl rfl) (v' := ptr b1 0) rfl) ?_
  refine Gx.val rfl rfl rfl (val_load rfl Try.ty3 rfl rfl (cell_rec (k := 0) rfl rfl)) ?_
  refine Gx.done ?_
  refine Gx.thenN ?_
  refine Gx.block ?_
  refine Gx.seq ?_
  refine Gx.region ?_
  refine Gx.val rfl rfl rfl (Val.cast (val_eql rfl rfl rfl) (v' := .bool true) rfl) ?_
  refine Gx.val rfl rfl rfl (val_assign rfl rfl) ?_
  refine Gx.done ?_
  refine Gx.thenN ?_
  refine Gx.t rfl ?_
  refine Gx.seq ?_
  refine Gx.region ?_
  refine Gx.val rfl rfl rfl (val_move rfl rfl) ?_
  refine Gx.val rfl rfl rfl (Val.cast (val_loadA rfl Try.ty24 rfl rfl rfl (cells_rec (k := 0) rfl)) (v' := .agg #[.int .i64 1, .int .i64 1, .int .i64 lo, .int .i64 sr, .bool wr, .int .i64 val]) rfl) ?_
  refine Gx.val rfl rfl rfl (val_move rfl rfl) ?_
  refine Gx.eff rfl rfl rfl (eff_call (vs := [ptr S 0, .agg #[.int .i64 1, .int .i64 1, .int .i64 lo, .int .i64 sr, .bool wr, .int .i64 val], .int .i64 ((mom : Nat) : Int)]) rfl Try.fn14 rfl (fun w H => begin_yes1 h0 h2 h3 hml (H.at_ (k := 1) rfl))) ?_
  rintro _ l9 ⟨b, b2, ov', rfl, hio, hl9⟩
  refine Gx.sepEq (l' := [regP S [a0, some mo.length, a2, a3] cv ov' cs (mo ++ [(⟨b, b2, newO 1 wr val mom⟩ : Om)]), Hp.rec_ b1 [.int .i64 1, .int .i64 1, .int .i64 lo, .int .i64 sr, .bool wr, .int .i64 val], R]) hl9 ?_
  refine Gx.val rfl rfl rfl (val_assign rfl rfl) ?_
  refine Gx.done ?_
  refine Gx.thenN ?_
  refine Gx.ret ?_
  refine Gx.blkR ?_
  refine Gx.thenR ?_
  refine Gx.drop 1 rfl ?_
  refine Gx.ret1 Try.results11 rfl ?_
  exact ⟨b, b2, ov', rfl, sep1 _ _⟩

theorem step_reach_nil1 {W w : World} {i : Nat} {S mom : Nat} {a0 a2 a3 : Option Nat} {cv ov : Value} {cs : List Sd} {mo : List Om} {R : Hp} {sr val : Int} {wr : Bool}  (hi : i < cs.length) (h5 : cs.length ≤ 5) (H : Sat W w (regP S [a0, none, a2, a3] cv ov cs mo * R)) :
    Calls Try.prog 11 #[ptr S 0, .agg #[.int .i64 2, .int .i64 1, .int .i64 ((i : Nat) : Int), .int .i64 sr, .bool wr, .int .i64 val], .int .i64 ((mom : Nat) : Int)] w (Ret W fun v l => v = .int .i64 6 ∧ sep l = regP S [a0, none, a2, a3] cv ov cs mo * R) := by
  refine Gx.enter (l := [Hp.rec_ S [cv, ov, nowV (mo.map Om.b) a0, .pointer none, nowV (mo.map Om.b) a2, nowV (mo.map Om.b) a3], Hp.own Fsd 3 cv cs, Hp.own FP 1 ov (mo.map Om.b), Hp.big opH mo, R]) Try.func11 rfl Try.ntmps11 rfl ((regP_open H)) ?_
  refine Gx.know (m' := [(0, ptr S 0), (1, .agg #[.int .i64 2, .int .i64 1, .int .i64 ((i : Nat) : Int), .int .i64 sr, .bool wr, .int .i64 val]), (2, .int .i64 ((mom : Nat) : Int))]) (.cons rfl (.cons rfl (.cons rfl .nil))) ?_
  refine Gx.seq ?_
  refine Gx.region ?_
  refine Gx.eff rfl rfl rfl (eff_box rfl rfl (vs := [.int .i64 2, .int .i64 1, .int .i64 ((i : Nat) : Int), .int .i64 sr, .bool wr, .int .i64 val]) rfl) ?_
  rintro _ _ ⟨b1, rfl, rfl⟩
  refine Gx.val rfl rfl rfl (val_assign rfl rfl) ?_
  refine Gx.done ?_
  refine Gx.thenN ?_
  refine Gx.seq ?_
  refine Gx.seq ?_
  refine Gx.region ?_
  refine Gx.val rfl rfl rfl (Val.cast (val_fieldAddr rfl Try.underlying24 rfl Try.ty3 rfl rfl) (v' := ptr b1 0) rfl) ?_
  refine Gx.val rfl rfl rfl (val_load rfl Try.ty3 rfl rfl (cell_rec (k := 0) rfl rfl)) ?_
  refine Gx.val rfl rfl rfl (Val.cast (val_lss rfl rfl rfl) (v' := .bool false) rfl) ?_
  refine Gx.val rfl rfl rfl (val_move rfl rfl) ?_
  refine Gx.valg rfl rfl rfl rfl rfl (Val.cast (val_fieldAddr rfl Try.underlying24 rfl Try.ty3 rfl rfl) (v' := ptr b1 0) rfl) ?_
  refine Gx.valg rfl rfl rfl rfl rfl (val_load rfl Try.ty3 rfl rfl (cell_rec (k := 0) rfl rfl)) ?_
  refine Gx.valg rfl rfl rfl rfl rfl (Val.cast (val_gtr rfl rfl rfl) (v' := .bool false) rfl) ?_
  refine Gx.val rfl rfl rfl (val_pickF rfl rfl rfl) ?_
  refine Gx.done ?_
  refine Gx.thenN ?_
  refine Gx.f rfl ?_
  refine Gx.skip ?_
  refine Gx.thenN ?_
  refine Gx.seq ?_
  refine Gx.seq ?_
  refine Gx.regionQ Try.mixed (by kernel_rfl) ?_
  refine Gq.val rfl rfl rfl (Val.cast (val_fieldAddr rfl Try.underlying24 rfl Try.ty3 rfl rfl) (v' := ptr b1 0) rfl) ?_
  refine Gq.val rfl rfl rfl (val_load rfl Try.ty3 rfl rfl (cell_rec (k := 0) rfl rfl)) ?_
  refine Gq.val rfl rfl rfl (Val.cast (val_neq rfl rfl rfl) (v' := .bool true) rfl) ?_
  refine Gq.val rfl rfl rfl (val_move rfl rfl) ?_
  refine Gq.valg rfl rfl rfl rfl rfl (Val.cast (val_fieldAddr rfl Try.underlying24 rfl Try.ty3 rfl rfl) (v' := ptr b1 1) rfl) ?_
  refine Gq.valg rfl rfl rfl rfl rfl (val_load rfl Try.ty3 rfl rfl (cell_rec (k := 0) rfl rfl)) ?_
  refine Gq.valg rfl rfl rfl rfl rfl (Val.cast (val_lss rfl rfl rfl) (v' := .bool false) rfl) ?_
  refine Gq.valg rfl rfl rfl rfl rfl (val_move rfl rfl) ?_
  refine Gq.valg rfl rfl rfl rfl rfl (Val.cast (val_fieldAddr rfl Try.underlying24 rfl Try.ty3 rfl rfl) (v' := ptr b1 1) rfl) ?_
  refine Gq.valg rfl rfl rfl rfl rfl (val_load rfl Try.ty3 rfl rfl (cell_rec (k := 0) rfl rfl)) ?_
  refine Gq.valg rfl rfl rfl rfl rfl (Val.cast (val_geq rfl rfl rfl) (v' := .bool false) rfl) ?_
  refine Gq.valg rfl rfl rfl rfl rfl (val_pickF rfl rfl rfl) ?_
  refine Gq.val rfl rfl rfl (val_pickT rfl rfl rfl) ?_
  refine Gq.val rfl rfl rfl (val_move rfl rfl) ?_
  refine Gq.valg rfl rfl rfl rfl rfl (Val.cast (val_fieldAddr rfl Try.underlying24 rfl Try.ty3 rfl rfl) (v' := ptr b1 0) rfl) ?_
  refine Gq.valg rfl rfl rfl rfl rfl (val_load rfl Try.ty3 rfl rfl (cell_rec (k := 0) rfl rfl)) ?_
  refine Gq.valg rfl rfl rfl rfl rfl (Val.cast (val_neq rfl rfl rfl) (v' := .bool true) rfl) ?_
  refine Gq.valg rfl rfl rfl rfl rfl (val_move rfl rfl) ?_
  refine Gq.valg rfl rfl rfl rfl rfl (Val.cast (val_fieldAddr rfl Try.underlying24 rfl Try.ty3 rfl rfl) (v' := ptr b1 2) rfl) ?_
  refine Gq.valg rfl rfl rfl rfl rfl (val_load rfl Try.ty3 rfl rfl (cell_rec (k := 0) rfl rfl)) ?_
  refine Gq.valg rfl rfl rfl rfl rfl (val_lss rfl rfl rfl) ?_
  refine Gq.valg rfl rfl rfl rfl rfl (val_move rfl rfl) ?_
  refine Gq.slot (t := 36) (v := .bool false) (look_decF rfl (by omega)) ?_
  refine Gq.valg rfl rfl rfl rfl rfl (Val.cast (val_fieldAddr rfl Try.underlying24 rfl Try.ty3 rfl rfl) (v' := ptr b1 2) rfl) ?_
  refine Gq.valg rfl rfl rfl rfl rfl (val_load rfl Try.ty3 rfl rfl (cell_rec (k := 0) rfl rfl)) ?_
  refine Gq.valg rfl rfl rfl rfl rfl (val_move rfl rfl) ?_
  refine Gq.valg rfl rfl rfl rfl rfl (val_nilCheck rfl rfl) ?_
  refine Gq.valg rfl rfl rfl rfl rfl (Val.cast (val_fieldAddr rfl Try.underlying47 rfl Try.ty42 rfl rfl) (v' := ptr S 0) rfl) ?_
  refine Gq.valg rfl rfl rfl rfl rfl (val_load rfl Try.ty42 rfl rfl (cell_rec (k := 1) rfl rfl)) ?_
  refine Gq.valg rfl rfl rfl rfl rfl (val_len rfl Try.underlying42 rfl (len_own (k := 2) rfl)) ?_
  refine Gq.valg rfl rfl rfl rfl rfl (val_geq rfl rfl rfl) ?_
  refine Gq.valg rfl rfl rfl rfl rfl (val_pickF rfl rfl rfl) ?_
  refine Gq.valg rfl rfl rfl rfl rfl (val_pickT rfl rfl rfl) ?_
  refine Gq.val rfl rfl rfl (val_pickF rfl rfl rfl) ?_
  refine Gq.done ?_
  refine Gx.thenN ?_
  refine Gx.decF rfl (by omega) ?_
  refine Gx.skip ?_
  refine Gx.thenN ?_
  refine Gx.seq ?_
  refine Gx.seq ?_
  refine Gx.region ?_
  refine Gx.val rfl rfl rfl (Val.cast (val_fieldAddr rfl Try.underlying24 rfl Try.ty3 rfl rfl) (v' := ptr b1 0) rfl) ?_
  refine Gx.val rfl rfl rfl (val_load rfl Try.ty3 rfl rfl (cell_rec (k := 0) rfl rfl)) ?_
  refine Gx.done ?_
  refine Gx.thenN ?_
  refine Gx.block ?_
  refine Gx.seq ?_
  refine Gx.region ?_
  refine Gx.val rfl rfl rfl (Val.cast (val_eql rfl rfl rfl) (v' := .bool false) rfl) ?_
  refine Gx.val rfl rfl rfl (val_assign rfl rfl) ?_
  refine Gx.done ?_
  refine Gx.thenN ?_
  refine Gx.f rfl ?_
  refine Gx.seq ?_
  refine Gx.region ?_
  refine Gx.val rfl rfl rfl (Val.cast (val_eql rfl rfl rfl) (v' := .bool true) rfl) ?_
  refine Gx.val rfl rfl rfl (val_assign rfl rfl) ?_
  refine Gx.done ?_
  refine Gx.thenN ?_
  refine Gx.t rfl ?_
  refine Gx.seq ?_
  refine Gx.regionO (fun j => false) 11 [0, 1, 2, 3, 4, 5, 6, 7, 8, 9, 10] (fun _ => [Hp.rec_ b1 [.int .i64 2, .int .i64 1, .int .i64 ((i : Nat) : Int), .int .i64 sr, .bool wr, .int .i64 val], Hp.rec_ S [cv, ov, nowV (mo.map Om.b) a0, .pointer none, nowV (mo.map Om.b) a2, nowV (mo.map Om.b) a3], Hp.own Fsd 3 cv cs, Hp.own FP 1 ov (mo.map Om.b), Hp.big opH mo, R]) Try.mixed (by kernel_rfl) rfl ?_
  refine Gw.val rfl rfl rfl rfl rfl (fun us => val_move rfl rfl) ?_
  refine Gw.val rfl rfl rfl rfl rfl (fun us => val_move rfl rfl) ?_
  refine Gw.val rfl rfl rfl rfl rfl (fun us => Val.cast (val_fieldAddr rfl Try.underlying24 rfl Try.ty3 rfl rfl) (v' := ptr b1 1) rfl) ?_
  refine Gw.val0 rfl rfl rfl (by kernel_rfl) rfl rfl (val_load rfl Try.ty3 rfl rfl (cell_rec (k := 0) rfl rfl)) ?_
  refine Gw.val rfl rfl rfl rfl rfl (fun us => val_nilCheck rfl rfl) ?_
  refine Gw.val rfl rfl rfl rfl rfl (fun us => Val.cast (val_fieldAddr rfl Try.underlying47 rfl Try.ty45 rfl rfl) (v' := ptr S 2) rfl) ?_
  refine Gw.val rfl rfl rfl rfl rfl (fun us => Val.cast (val_ixaA rfl Try.underlying45 Try.ty44 rfl rfl (j := 1) (rfl) (by omega)) (v' := ptr S 3) rfl) ?_
  refine Gw.val0 rfl rfl rfl (by kernel_rfl) rfl rfl (val_load rfl Try.ty44 rfl rfl (cell_rec (k := 1) rfl rfl)) ?_
  refine Gw.val rfl rfl rfl rfl rfl (fun us => Val.cast (val_fieldAddr rfl Try.underlying24 rfl Try.ty3 rfl rfl) (v' := ptr b1 2) rfl) ?_
  refine Gw.val0 rfl rfl rfl (by kernel_rfl) rfl rfl (val_load rfl Try.ty3 rfl rfl (cell_rec (k := 0) rfl rfl)) ?_
  refine Gw.val rfl rfl rfl rfl rfl (fun us => val_move rfl rfl) ?_
  refine Gw.done ?_
  refine Gx.norm (l' := [Hp.rec_ b1 [.int .i64 2, .int .i64 1, .int .i64 ((i : Nat) : Int), .int .i64 sr, .bool wr, .int .i64 val], Hp.rec_ S [cv, ov, nowV (mo.map Om.b) a0, .pointer none, nowV (mo.map Om.b) a2, nowV (mo.map Om.b) a3], Hp.own Fsd 3 cv cs, Hp.own FP 1 ov (mo.map Om.b), Hp.big opH mo, R]) rfl ?_
  refine Gx.drop 0 rfl ?_
  refine Gx.sepEq (l' := [regP S [a0, none, a2, a3] cv ov cs mo, R]) ((regP_shut (a0 := a0) (a1 := none) (a2 := a2) (a3 := a3)).trans (sep1 _ _).symm) ?_
  refine Gx.eff rfl rfl rfl (eff_call (vs := [ptr S 0, .pointer none, .int .i64 ((i : Nat) : Int), .int .i64 ((mom : Nat) : Int)]) rfl Try.fn15 rfl (fun w H => reach_nil H)) ?_
  rintro _ l2 ⟨rfl, hl2⟩
  refine Gx.sepEq (l' := [regP S [a0, none, a2, a3] cv ov cs mo, R]) hl2 ?_
  refine Gx.val rfl rfl rfl (val_assign rfl rfl) ?_
  refine Gx.done ?_
  refine Gx.thenN ?_
  refine Gx.ret ?_
  refine Gx.blkR ?_
  refine Gx.thenR ?_
  refine Gx.ret1 Try.results11 rfl ?_
  exact ⟨rfl, sep1 _ _⟩

theorem step_reach_seen1 {W w : World} {i : Nat} {S mom : Nat} {a0 a2 a3 : Option Nat} {cv ov : Value} {cs : List Sd} {mo : List Om} {R : Hp} {sr val : Int} {wr : Bool} {k : Nat} {m : Om} (hk : mo[k]? = some m) (hs : i ∈ m.o.seen) (hmk : mk m.o.seen < 4294967296) (hi : i < cs.length) (h5 : cs.length ≤ 5) (H : Sat W w (regP S [a0, some k, a2, a3] cv ov cs mo * R)) :
    Calls Try.prog 11 #[ptr S 0, .agg #[.int .i64 2, .int .i64 1, .int .i64 ((i : Nat) : Int), .int .i64 sr, .bool wr, .int .i64 val], .int .i64 ((mom : Nat) : Int)] w (Ret W fun v l => v = .int .i64 6 ∧ sep l = regP S [a0, some k, a2, a3] cv ov cs mo * R) := by
  refine Gx.enter (l := [Hp.rec_ S [cv, ov, nowV (mo.map Om.b) a0, ptr m.b 0, nowV (mo.map Om.b) a2, nowV (mo.map Om.b) a3], Hp.own Fsd 3 cv cs, Hp.own FP 1 ov (mo.map Om.b), Hp.big opH mo, R]) Try.func11 rfl Try.ntmps11 rfl ((by have e9 := regP_open H; rw [nowV_at hk] at e9; exact e9)) ?_
  refine Gx.know (m' := [(0, ptr S 0), (1, .agg #[.int .i64 2, .int .i64 1, .int .i64 ((i : Nat) : Int), .int .i64 sr, .bool wr, .int .i64 val]), (2, .int .i64 ((mom : Nat) : Int))]) (.cons rfl (.cons rfl (.cons rfl .nil))) ?_
  refine Gx.seq ?_
  refine Gx.region ?_
  refine Gx.eff rfl rfl rfl (eff_box rfl rfl (vs := [.int .i64 2, .int .i64 1, .int .i64 ((i : Nat) : Int), .int .i64 sr, .bool wr, .int .i64 val]) rfl) ?_
  rintro _ _ ⟨b1, rfl, rfl⟩
  refine Gx.val rfl rfl rfl (val_assign rfl rfl) ?_
  refine Gx.done ?_
  refine Gx.thenN ?_
  refine Gx.seq ?_
  refine Gx.seq ?_
  refine Gx.region ?_
  refine Gx.val rfl rfl rfl (Val.cast (val_fieldAddr rfl Try.underlying24 rfl Try.ty3 rfl rfl) (v' := ptr b1 0) rfl) ?_
  refine Gx.val rfl rfl rfl (val_load rfl Try.ty3 rfl rfl (cell_rec (k := 0) rfl rfl)) ?_
  refine Gx.val rfl rfl rfl (Val.cast (val_lss rfl rfl rfl) (v' := .bool false) rfl) ?_
  refine Gx.val rfl rfl rfl (val_move rfl rfl) ?_
  refine Gx.valg rfl rfl rfl rfl rfl (Val.cast (val_fieldAddr rfl Try.underlying24 rfl Try.ty3 rfl rfl) (v' := ptr b1 0) rfl) ?_
  refine Gx.valg rfl rfl rfl rfl rfl (val_load rfl Try.ty3 rfl rfl (cell_rec (k := 0) rfl rfl)) ?_
  refine Gx.valg rfl rfl rfl rfl rfl (Val.cast (val_gtr rfl rfl rfl) (v' := .bool false) rfl) ?_
  refine Gx.val rfl rfl rfl (val_pickF rfl rfl rfl) ?_
  refine Gx.done ?_
  refine Gx.thenN ?_
  refine Gx.f rfl ?_
  refine Gx.skip ?_
  refine Gx.thenN ?_
  refine Gx.seq ?_
  refine Gx.seq ?_
  refine Gx.regionQ Try.mixed (by kernel_rfl) ?_
  refine Gq.val rfl rfl rfl (Val.cast (val_fieldAddr rfl Try.underlying24 rfl Try.ty3 rfl rfl) (v' := ptr b1 0) rfl) ?_
  refine Gq.val rfl rfl rfl (val_load rfl Try.ty3 rfl rfl (cell_rec (k := 0) rfl rfl)) ?_
  refine Gq.val rfl rfl rfl (Val.cast (val_neq rfl rfl rfl) (v' := .bool true) rfl) ?_
  refine Gq.val rfl rfl rfl (val_move rfl rfl) ?_
  refine Gq.valg rfl rfl rfl rfl rfl (Val.cast (val_fieldAddr rfl Try.underlying24 rfl Try.ty3 rfl rfl) (v' := ptr b1 1) rfl) ?_
  refine Gq.valg rfl rfl rfl rfl rfl (val_load rfl Try.ty3 rfl rfl (cell_rec (k := 0) rfl rfl)) ?_
  refine Gq.valg rfl rfl rfl rfl rfl (Val.cast (val_lss rfl rfl rfl) (v' := .bool false) rfl) ?_
  refine Gq.valg rfl rfl rfl rfl rfl (val_move rfl rfl) ?_
  refine Gq.valg rfl rfl rfl rfl rfl (Val.cast (val_fieldAddr rfl Try.underlying24 rfl Try.ty3 rfl rfl) (v' := ptr b1 1) rfl) ?_
  refine Gq.valg rfl rfl rfl rfl rfl (val_load rfl Try.ty3 rfl rfl (cell_rec (k := 0) rfl rfl)) ?_
  refine Gq.valg rfl rfl rfl rfl rfl (Val.cast (val_geq rfl rfl rfl) (v' := .bool false) rfl) ?_
  refine Gq.valg rfl rfl rfl rfl rfl (val_pickF rfl rfl rfl) ?_
  refine Gq.val rfl rfl rfl (val_pickT rfl rfl rfl) ?_
  refine Gq.val rfl rfl rfl (val_move rfl rfl) ?_
  refine Gq.valg rfl rfl rfl rfl rfl (Val.cast (val_fieldAddr rfl Try.underlying24 rfl Try.ty3 rfl rfl) (v' := ptr b1 0) rfl) ?_
  refine Gq.valg rfl rfl rfl rfl rfl (val_load rfl Try.ty3 rfl rfl (cell_rec (k := 0) rfl rfl)) ?_
  refine Gq.valg rfl rfl rfl rfl rfl (Val.cast (val_neq rfl rfl rfl) (v' := .bool true) rfl) ?_
  refine Gq.valg rfl rfl rfl rfl rfl (val_move rfl rfl) ?_
  refine Gq.valg rfl rfl rfl rfl rfl (Val.cast (val_fieldAddr rfl Try.underlying24 rfl Try.ty3 rfl rfl) (v' := ptr b1 2) rfl) ?_
  refine Gq.valg rfl rfl rfl rfl rfl (val_load rfl Try.ty3 rfl rfl (cell_rec (k := 0) rfl rfl)) ?_
  refine Gq.valg rfl rfl rfl rfl rfl (val_lss rfl rfl rfl) ?_
  refine Gq.valg rfl rfl rfl rfl rfl (val_move rfl rfl) ?_
  refine Gq.slot (t := 36) (v := .bool false) (look_decF rfl (by omega)) ?_
  refine Gq.valg rfl rfl rfl rfl rfl (Val.cast (val_fieldAddr rfl Try.underlying24 rfl Try.ty3 rfl rfl) (v' := ptr b1 2) rfl) ?_
  refine Gq.valg rfl rfl rfl rfl rfl (val_load rfl Try.ty3 rfl rfl (cell_rec (k := 0) rfl rfl)) ?_
  refine Gq.valg rfl rfl rfl rfl rfl (val_move rfl rfl) ?_
  refine Gq.valg rfl rfl rfl rfl rfl (val_nilCheck rfl rfl) ?_
  refine Gq.valg rfl rfl rfl rfl rfl (Val.cast (val_fieldAddr rfl Try.underlying47 rfl Try.ty42 rfl rfl) (v' := ptr S 0) rfl) ?_
  refine Gq.valg rfl rfl rfl rfl rfl (val_load rfl Try.ty42 rfl rfl (cell_rec (k := 1) rfl rfl)) ?_
  refine Gq.valg rfl rfl rfl rfl rfl (val_len rfl Try.underlying42 rfl (len_own (k := 2) rfl)) ?_
  refine Gq.valg rfl rfl rfl rfl rfl (val_geq rfl rfl rfl) ?_
  refine Gq.valg rfl rfl rfl rfl rfl (val_pickF rfl rfl rfl) ?_
  refine Gq.valg rfl rfl rfl rfl rfl (val_pickT rfl rfl rfl) ?_
  refine Gq.val rfl rfl rfl (val_pickF rfl rfl rfl) ?_
  refine Gq.done ?_
  refine Gx.thenN ?_
  refine Gx.decF rfl (by omega) ?_
  refine Gx.skip ?_
  refine Gx.thenN ?_
  refine Gx.seq ?_
  refine Gx.seq ?_
  refine Gx.region ?_
  refine Gx.val rfl rfl rfl (Val.cast (val_fieldAddr rfl Try.underlying24 rfl Try.ty3 rfl rfl) (v' := ptr b1 0) rfl) ?_
  refine Gx.val rfl rfl rfl (val_load rfl Try.ty3 rfl rfl (cell_rec (k := 0) rfl rfl)) ?_
  refine Gx.done ?_
  refine Gx.thenN ?_
  refine Gx.block ?_
  refine Gx.seq ?_
  refine Gx.region ?_
  refine Gx.val rfl rfl rfl (Val.cast (val_eql rfl rfl rfl) (v' := .bool false) rfl) ?_
  refine Gx.val rfl rfl rfl (val_assign rfl rfl) ?_
  refine Gx.done ?_
  refine Gx.thenN ?_
  refine Gx.f rfl ?_
  refine Gx.seq ?_
  refine Gx.region ?_
  refine Gx.val rfl rfl rfl (Val.cast (val_eql rfl rfl rfl) (v' := .bool true) rfl) ?_
  refine Gx.val rfl rfl rfl (val_assign rfl rfl) ?_
  refine Gx.done ?_
  refine Gx.thenN ?_
  refine Gx.t rfl ?_
  refine Gx.seq ?_
  refine Gx.regionO (fun j => false) 11 [0, 1, 2, 3, 4, 5, 6, 7, 8, 9, 10] (fun _ => [Hp.rec_ b1 [.int .i64 2, .int .i64 1, .int .i64 ((i : Nat) : Int), .int .i64 sr, .bool wr, .int .i64 val], Hp.rec_ S [cv, ov, nowV (mo.map Om.b) a0, ptr m.b 0, nowV (mo.map Om.b) a2, nowV (mo.map Om.b) a3], Hp.own Fsd 3 cv cs, Hp.own FP 1 ov (mo.map Om.b), Hp.big opH mo, R]) Try.mixed (by kernel_rfl) rfl ?_
  refine Gw.val rfl rfl rfl rfl rfl (fun us => val_move rfl rfl) ?_
  refine Gw.val rfl rfl rfl rfl rfl (fun us => val_move rfl rfl) ?_
  refine Gw.val rfl rfl rfl rfl rfl (fun us => Val.cast (val_fieldAddr rfl Try.underlying24 rfl Try.ty3 rfl rfl) (v' := ptr b1 1) rfl) ?_
  refine Gw.val0 rfl rfl rfl (by kernel_rfl) rfl rfl (val_load rfl Try.ty3 rfl rfl (cell_rec (k := 0) rfl rfl)) ?_
  refine Gw.val rfl rfl rfl rfl rfl (fun us => val_nilCheck rfl rfl) ?_
  refine Gw.val rfl rfl rfl rfl rfl (fun us => Val.cast (val_fieldAddr rfl Try.underlying47 rfl Try.ty45 rfl rfl) (v' := ptr S 2) rfl) ?_
  refine Gw.val rfl rfl rfl rfl rfl (fun us => Val.cast (val_ixaA rfl Try.underlying45 Try.ty44 rfl rfl (j := 1) (rfl) (by omega)) (v' := ptr S 3) rfl) ?_
  refine Gw.val0 rfl rfl rfl (by kernel_rfl) rfl rfl (val_load rfl Try.ty44 rfl rfl (cell_rec (k := 1) rfl rfl)) ?_
  refine Gw.val rfl rfl rfl rfl rfl (fun us => Val.cast (val_fieldAddr rfl Try.underlying24 rfl Try.ty3 rfl rfl) (v' := ptr b1 2) rfl) ?_
  refine Gw.val0 rfl rfl rfl (by kernel_rfl) rfl rfl (val_load rfl Try.ty3 rfl rfl (cell_rec (k := 0) rfl rfl)) ?_
  refine Gw.val rfl rfl rfl rfl rfl (fun us => val_move rfl rfl) ?_
  refine Gw.done ?_
  refine Gx.norm (l' := [Hp.rec_ b1 [.int .i64 2, .int .i64 1, .int .i64 ((i : Nat) : Int), .int .i64 sr, .bool wr, .int .i64 val], Hp.rec_ S [cv, ov, nowV (mo.map Om.b) a0, ptr m.b 0, nowV (mo.map Om.b) a2, nowV (mo.map Om.b) a3], Hp.own Fsd 3 cv cs, Hp.own FP 1 ov (mo.map Om.b), Hp.big opH mo, R]) rfl ?_
  refine Gx.drop 0 rfl ?_
  refine Gx.sepEq (l' := [regP S [a0, some k, a2, a3] cv ov cs mo, R]) (by have e9 := regP_shut (S := S) (cv := cv) (ov := ov) (cs := cs) (mo := mo) (R := R) (a0 := a0) (a1 := some k) (a2 := a2) (a3 := a3); rw [nowV_at hk] at e9; exact e9.trans (sep1 _ _).symm) ?_
  refine Gx.eff rfl rfl rfl (eff_call (vs := [ptr S 0, ptr m.b 0, .int .i64 ((i : Nat) : Int), .int .i64 ((mom : Nat) : Int)]) rfl Try.fn15 rfl (fun w H => reach_seen hk hs (by omega) hmk (H.at_ (k := 0) rfl))) ?_
  rintro _ l2 ⟨rfl, hl2⟩
  refine Gx.sepEq (l' := [regP S [a0, some k, a2, a3] cv ov cs mo, R]) hl2 ?_
  refine Gx.val rfl rfl rfl (val_assign rfl rfl) ?_
  refine Gx.done ?_
  refine Gx.thenN ?_
  refine Gx.ret ?_
  refine Gx.blkR ?_
  refine Gx.thenR ?_
  refine Gx.ret1 Try.results11 rfl ?_
  exact ⟨rfl, sep1 _ _⟩

theorem step_reach_go1 {W w : World} {i : Nat} {S mom : Nat} {a0 a2 a3 : Option Nat} {cv ov : Value} {cs : List Sd} {mo : List Om} {R : Hp} {sr val : Int} {wr : Bool} {k : Nat} {m : Om} (hk : mo[k]? = some m) (hw : m.o.who = 1) (hs : ¬ i ∈ m.o.seen) (hmk : mk m.o.seen < 4294967296) (hmany : m.o.many ≤ 5) (hbn : m.o.best.n ≤ 1000) (hcn : ∀ c ∈ cs, c.n ≤ 1000) (hi : i < cs.length) (h5 : cs.length ≤ 5) (H : Sat W w (regP S [a0, some k, a2, a3] cv ov cs mo * R)) :
    Calls Try.prog 11 #[ptr S 0, .agg #[.int .i64 2, .int .i64 1, .int .i64 ((i : Nat) : Int), .int .i64 sr, .bool wr, .int .i64 val], .int .i64 ((mom : Nat) : Int)] w (Ret W fun v l => v = .int .i64 0 ∧ sep l = regP S (if 2 * (m.o.many + 1) ≤ cs.length then [a0, some k, a2, a3] else if m.o.sec = true then [a0, none, a2, a3] else [a0, some k, a2, a3]) cv ov (if m.o.sec = true then storeR cs i m.o.best else cs) (mo.set k ⟨m.b, m.b2, if 2 * (m.o.many + 1) ≤ cs.length then seeR cs i m.o else turnO (seeR cs i m.o) mom⟩) * R) := by
  refine Gx.enter (l := [Hp.rec_ S [cv, ov, nowV (mo.map Om.b) a0, ptr m.b 0, nowV (mo.map Om.b) a2, nowV (mo.map Om.b) a3], Hp.own Fsd 3 cv cs, Hp.own FP 1 ov (mo.map Om.b), Hp.big opH mo, R]) Try.func11 rfl Try.ntmps11 rfl ((by have e9 := regP_open H; rw [nowV_at hk] at e9; exact e9)) ?_
  refine Gx.know (m' := [(0, ptr S 0), (1, .agg #[.int .i64 2, .int .i64 1, .int .i64 ((i : Nat) : Int), .int .i64 sr, .bool wr, .int .i64 val]), (2, .int .i64 ((mom : Nat) : Int))]) (.cons rfl (.cons rfl (.cons rfl .nil))) ?_
  refine Gx.seq ?_
  refine Gx.region ?_
  refine Gx.eff rfl rfl rfl (eff_box rfl rfl (vs := [.int .i64 2, .int .i64 1, .int .i64 ((i : Nat) : Int), .int .i64 sr, .bool wr, .int .i64 val]) rfl) ?_
  rintro _ _ ⟨b1, rfl, rfl⟩
  refine Gx.val rfl rfl rfl (val_assign rfl rfl) ?_
  refine Gx.done ?_
  refine Gx.thenN ?_
  refine Gx.seq ?_
  refine Gx.seq ?_
  refine Gx.region ?_
  refine Gx.val rfl rfl rfl (Val.cast (val_fieldAddr rfl Try.underlying24 rfl Try.ty3 rfl rfl) (v' := ptr b1 0) rfl) ?_
  refine Gx.val rfl rfl rfl (val_load rfl Try.ty3 rfl rfl (cell_rec (k := 0) rfl rfl)) ?_
  refine Gx.val rfl rfl rfl (Val.cast (val_lss rfl rfl rfl) (v' := .bool false) rfl) ?_
  refine Gx.val rfl rfl rfl (val_move rfl rfl) ?_
  refine Gx.valg rfl rfl rfl rfl rfl (Val.cast (val_fieldAddr rfl Try.underlying24 rfl Try.ty3 rfl rfl) (v' := ptr b1 0) rfl) ?_
  refine Gx.valg rfl rfl rfl rfl rfl (val_load rfl Try.ty3 rfl rfl (cell_rec (k := 0) rfl rfl)) ?_
  refine Gx.valg rfl rfl rfl rfl rfl (Val.cast (val_gtr rfl rfl rfl) (v' := .bool false) rfl) ?_
  refine Gx.val rfl rfl rfl (val_pickF rfl rfl rfl) ?_
  refine Gx.done ?_
  refine Gx.thenN ?_
  refine Gx.f rfl ?_
  refine Gx.skip ?_
  refine Gx.thenN ?_
  refine Gx.seq ?_
  refine Gx.seq ?_
  refine Gx.regionQ Try.mixed (by kernel_rfl) ?_
  refine Gq.val rfl rfl rfl (Val.cast (val_fieldAddr rfl Try.underlying24 rfl Try.ty3 rfl rfl) (v' := ptr b1 0) rfl) ?_
  refine Gq.val rfl rfl rfl (val_load rfl Try.ty3 rfl rfl (cell_rec (k := 0) rfl rfl)) ?_
  refine Gq.val rfl rfl rfl (Val.cast (val_neq rfl rfl rfl) (v' := .bool true) rfl) ?_
  refine Gq.val rfl rfl rfl (val_move rfl rfl) ?_
  refine Gq.valg rfl rfl rfl rfl rfl (Val.cast (val_fieldAddr rfl Try.underlying24 rfl Try.ty3 rfl rfl) (v' := ptr b1 1) rfl) ?_
  refine Gq.valg rfl rfl rfl rfl rfl (val_load rfl Try.ty3 rfl rfl (cell_rec (k := 0) rfl rfl)) ?_
  refine Gq.valg rfl rfl rfl rfl rfl (Val.cast (val_lss rfl rfl rfl) (v' := .bool false) rfl) ?_
  refine Gq.valg rfl rfl rfl rfl rfl (val_move rfl rfl) ?_
  refine Gq.valg rfl rfl rfl rfl rfl (Val.cast (val_fieldAddr rfl Try.underlying24 rfl Try.ty3 rfl rfl) (v' := ptr b1 1) rfl) ?_
  refine Gq.valg rfl rfl rfl rfl rfl (val_load rfl Try.ty3 rfl rfl (cell_rec (k := 0) rfl rfl)) ?_
  refine Gq.valg rfl rfl rfl rfl rfl (Val.cast (val_geq rfl rfl rfl) (v' := .bool false) rfl) ?_
  refine Gq.valg rfl rfl rfl rfl rfl (val_pickF rfl rfl rfl) ?_
  refine Gq.val rfl rfl rfl (val_pickT rfl rfl rfl) ?_
  refine Gq.val rfl rfl rfl (val_move rfl rfl) ?_
  refine Gq.valg rfl rfl rfl rfl rfl (Val.cast (val_fieldAddr rfl Try.underlying24 rfl Try.ty3 rfl rfl) (v' := ptr b1 0) rfl) ?_
  refine Gq.valg rfl rfl rfl rfl rfl (val_load rfl Try.ty3 rfl rfl (cell_rec (k := 0) rfl rfl)) ?_
  refine Gq.valg rfl rfl rfl rfl rfl (Val.cast (val_neq rfl rfl rfl) (v' := .bool true) rfl) ?_
  refine Gq.valg rfl rfl rfl rfl rfl (val_move rfl rfl) ?_
  refine Gq.valg rfl rfl rfl rfl rfl (Val.cast (val_fieldAddr rfl Try.underlying24 rfl Try.ty3 rfl rfl) (v' := ptr b1 2) rfl) ?_
  refine Gq.valg rfl rfl rfl rfl rfl (val_load rfl Try.ty3 rfl rfl (cell_rec (k := 0) rfl rfl)) ?_
  refine Gq.valg rfl rfl rfl rfl rfl (val_lss rfl rfl rfl) ?_
  refine Gq.valg rfl rfl rfl rfl rfl (val_move rfl rfl) ?_
  refine Gq.slot (t := 36) (v := .bool false) (look_decF rfl (by omega)) ?_
  refine Gq.valg rfl rfl rfl rfl rfl (Val.cast (val_fieldAddr rfl Try.underlying24 rfl Try.ty3 rfl rfl) (v' := ptr b1 2) rfl) ?_
  refine Gq.valg rfl rfl rfl rfl rfl (val_load rfl Try.ty3 rfl rfl (cell_rec (k := 0) rfl rfl)) ?_
  refine Gq.valg rfl rfl rfl rfl rfl (val_move rfl rfl) ?_
  refine Gq.valg rfl rfl rfl rfl rfl (val_nilCheck rfl rfl) ?_
  refine Gq.valg rfl rfl rfl rfl rfl (Val.cast (val_fieldAddr rfl Try.underlying47 rfl Try.ty42 rfl rfl) (v' := ptr S 0) rfl) ?_
  refine Gq.valg rfl rfl rfl rfl rfl (val_load rfl Try.ty42 rfl rfl (cell_rec (k := 1) rfl rfl)) ?_
  refine Gq.valg rfl rfl rfl rfl rfl (val_len rfl Try.underlying42 rfl (len_own (k := 2) rfl)) ?_
  refine Gq.valg rfl rfl rfl rfl rfl (val_geq rfl rfl rfl) ?_
  refine Gq.valg rfl rfl rfl rfl rfl (val_pickF rfl rfl rfl) ?_
  refine Gq.valg rfl rfl rfl rfl rfl (val_pickT rfl rfl rfl) ?_
  refine Gq.val rfl rfl rfl (val_pickF rfl rfl rfl) ?_
  refine Gq.done ?_
  refine Gx.thenN ?_
  refine Gx.decF rfl (by omega) ?_
  refine Gx.skip ?_
  refine Gx.thenN ?_
  refine Gx.seq ?_
  refine Gx.seq ?_
  refine Gx.region ?_
  refine Gx.val rfl rfl rfl (Val.cast (val_fieldAddr rfl Try.underlying24 rfl Try.ty3 rfl rfl) (v' := ptr b1 0) rfl) ?_
  refine Gx.val rfl rfl rfl (val_load rfl Try.ty3 rfl rfl (cell_rec (k := 0) rfl rfl)) ?_
  refine Gx.done ?_
  refine Gx.thenN ?_
  refine Gx.block ?_
  refine Gx.seq ?_
  refine Gx.region ?_
  refine Gx.val rfl rfl rfl (Val.cast (val_eql rfl rfl rfl) (v' := .bool false) rfl) ?_
  refine Gx.val rfl rfl rfl (val_assign rfl rfl) ?_
  refine Gx.done ?_
  refine Gx.thenN ?_
  refine Gx.f rfl ?_
  refine Gx.seq ?_
  refine Gx.region ?_
  refine Gx.val rfl rfl rfl (Val.cast (val_eql rfl rfl rfl) (v' := .bool true) rfl) ?_
  refine Gx.val rfl rfl rfl (val_assign rfl rfl) ?_
  refine Gx.done ?_
  refine Gx.thenN ?_
  refine Gx.t rfl ?_
  refine Gx.seq ?_
  refine Gx.regionO (fun j => false) 11 [0, 1, 2, 3, 4, 5, 6, 7, 8, 9, 10] (fun _ => [Hp.rec_ b1 [.int .i64 2, .int .i64 1, .int .i64 ((i : Nat) : Int), .int .i64 sr, .bool wr, .int .i64 val], Hp.rec_ S [cv, ov, nowV (mo.map Om.b) a0, ptr m.b 0, nowV (mo.map Om.b) a2, nowV (mo.map Om.b) a3], Hp.own Fsd 3 cv cs, Hp.own FP 1 ov (mo.map Om.b), Hp.big opH mo, R]) Try.mixed (by kernel_rfl) rfl ?_
  refine Gw.val rfl rfl rfl rfl rfl (fun us => val_move rfl rfl) ?_
  refine Gw.val rfl rfl rfl rfl rfl (fun us => val_move rfl rfl) ?_
  refine Gw.val rfl rfl rfl rfl rfl (fun us => Val.cast (val_fieldAddr rfl Try.underlying24 rfl Try.ty3 rfl rfl) (v' := ptr b1 1) rfl) ?_
  refine Gw.val0 rfl rfl rfl (by kernel_rfl) rfl rfl (val_load rfl Try.ty3 rfl rfl (cell_rec (k := 0) rfl rfl)) ?_
  refine Gw.val rfl rfl rfl rfl rfl (fun us => val_nilCheck rfl rfl) ?_
  refine Gw.val rfl rfl rfl rfl rfl (fun us => Val.cast (val_fieldAddr rfl Try.underlying47 rfl Try.ty45 rfl rfl) (v' := ptr S 2) rfl) ?_
  refine Gw.val rfl rfl rfl rfl rfl (fun us => Val.cast (val_ixaA rfl Try.underlying45 Try.ty44 rfl rfl (j := 1) (rfl) (by omega)) (v' := ptr S 3) rfl) ?_
  refine Gw.val0 rfl rfl rfl (by kernel_rfl) rfl rfl (val_load rfl Try.ty44 rfl rfl (cell_rec (k := 1) rfl rfl)) ?_
  refine Gw.val rfl rfl rfl rfl rfl (fun us => Val.cast (val_fieldAddr rfl Try.underlying24 rfl Try.ty3 rfl rfl) (v' := ptr b1 2) rfl) ?_
  refine Gw.val0 rfl rfl rfl (by kernel_rfl) rfl rfl (val_load rfl Try.ty3 rfl rfl (cell_rec (k := 0) rfl rfl)) ?_
  refine Gw.val rfl rfl rfl rfl rfl (fun us => val_move rfl rfl) ?_
  refine Gw.done ?_
  refine Gx.norm (l' := [Hp.rec_ b1 [.int .i64 2, .int .i64 1, .int .i64 ((i : Nat) : Int), .int .i64 sr, .bool wr, .int .i64 val], Hp.rec_ S [cv, ov, nowV (mo.map Om.b) a0, ptr m.b 0, nowV (mo.map Om.b) a2, nowV (mo.map Om.b) a3], Hp.own Fsd 3 cv cs, Hp.own FP 1 ov (mo.map Om.b), Hp.big opH mo, R]) rfl ?_
  refine Gx.drop 0 rfl ?_
  refine Gx.sepEq (l' := [regP S [a0, some k, a2, a3] cv ov cs mo, R]) (by have e9 := regP_shut (S := S) (cv := cv) (ov := ov) (cs := cs) (mo := mo) (R := R) (a0 := a0) (a1 := some k) (a2 := a2) (a3 := a3); rw [nowV_at hk] at e9; exact e9.trans (sep1 _ _).symm) ?_
  refine Gx.eff rfl rfl rfl (eff_call (vs := [ptr S 0, ptr m.b 0, .int .i64 ((i : Nat) : Int), .int .i64 ((mom : Nat) : Int)]) rfl Try.fn15 rfl (fun w H => reach_go1 hk hw hi hs h5 hmk hmany hbn hcn (H.at_ (k := 0) rfl))) ?_
  rintro _ l2 ⟨rfl, hl2⟩
  refine Gx.sepEq (l' := [regP S (if 2 * (m.o.many + 1) ≤ cs.length then [a0, some k, a2, a3] else if m.o.sec = true then [a0, none, a2, a3] else [a0, some k, a2, a3]) cv ov (if m.o.sec = true then storeR cs i m.o.best else cs) (mo.set k ⟨m.b, m.b2, if 2 * (m.o.many + 1) ≤ cs.length then seeR cs i m.o else turnO (seeR cs i m.o) mom⟩), R]) hl2 ?_
  refine Gx.val rfl rfl rfl (val_assign rfl rfl) ?_
  refine Gx.done ?_
  refine Gx.thenN ?_
  refine Gx.ret ?_
  refine Gx.blkR ?_
  refine Gx.thenR ?_
  refine Gx.ret1 Try.results11 rfl ?_
  exact ⟨rfl, sep1 _ _⟩

theorem step_begin_no2 {W w : World} {S mom : Nat} {a0 a1 a3 : Option Nat} {cv ov : Value} {cs : List Sd} {mo : List Om} {R : Hp} {k : Nat} {lo sr val : Int} {wr : Bool}  (H : Sat W w (regP S [a0, a1, some k, a3] cv ov cs mo * R)) :
    Calls Try.prog 11 #[ptr S 0, .agg #[.int .i64 1, .int .i64 2, .int .i64 lo, .int .i64 sr, .bool wr, .int .i64 val], .int .i64 ((mom : Nat) : Int)] w (Ret W fun v l => v = .int .i64 6 ∧ sep l = regP S [a0, a1, some k, a3] cv ov cs mo * R) := by
  refine Gx.enter (l := [regP S [a0, a1, some k, a3] cv ov cs mo, R]) Try.func11 rfl Try.ntmps11 rfl (H.frame1) ?_
  refine Gx.know (m' := [(0, ptr S 0), (1, .agg #[.int .i64 1, .int .i64 2, .int .i64 lo, .int .i64 sr, .bool wr, .int .i64 val]), (2, .int .i64 ((mom : Nat) : Int))]) (.cons rfl (.cons rfl (.cons rfl .nil))) ?_
  refine Gx.seq ?_
  refine Gx.region ?_
  refine Gx.eff rfl rfl rfl (eff_box rfl rfl (vs := [.int .i64 1, .int .i64 2, .int .i64 lo, .int .i64 sr, .bool wr, .int .i64 val]) rfl) ?_
  rintro _ _ ⟨b1, rfl, rfl⟩
  refine Gx.val rfl rfl rfl (val_assign rfl rfl) ?_
  refine Gx.done ?_
  refine Gx.thenN ?_
  refine Gx.seq ?_
  refine Gx.seq ?_
  refine Gx.region ?_
  refine Gx.val rfl rfl rfl (Val.cast (val_fieldAddr rfl Try.underlying24 rfl Try.ty3 rfl rfl) (v' := ptr b1 0) rfl) ?_
  refine Gx.val rfl rfl rfl (val_load rfl Try.ty3 rfl rfl (cell_rec (k := 0) rfl rfl)) ?_
  refine Gx.val rfl rfl rfl (Val.cast (val_lss rfl rfl rfl) (v' := .bool false) rfl) ?_
  refine Gx.val rfl rfl rfl (val_move rfl rfl) ?_
  refine Gx.valg rfl rfl rfl rfl rfl (Val.cast (val_fieldAddr rfl Try.underlying24 rfl Try.ty3 rfl rfl) (v' := ptr b1 0) rfl) ?_
  refine Gx.valg rfl rfl rfl rfl rfl (val_load rfl Try.ty3 rfl rfl (cell_rec (k := 0) rfl rfl)) ?_
  refine Gx.valg rfl rfl rfl rfl rfl (Val.cast (val_gtr rfl rfl rfl) (v' := .bool false) rfl) ?_
  refine Gx.val rfl rfl rfl (val_pickF rfl rfl rfl) ?_
  refine Gx.done ?_
  refine Gx.thenN ?_
  refine Gx.f rfl ?_
  refine Gx.skip ?_
  refine Gx.thenN ?_
  refine Gx.seq ?_
  refine Gx.seq ?_
  refine Gx.regionQ Try.mixed (by kernel_rfl) ?_
  refine Gq.val rfl rfl rfl (Val.cast (val_fieldAddr rfl Try.underlying24 rfl Try.ty3 rfl rfl) (v' := ptr b1 0) rfl) ?_
  refine Gq.val rfl rfl rfl (val_load rfl Try.ty3 rfl rfl (cell_rec (k := 0) rfl rfl)) ?_
  refine Gq.val rfl rfl rfl (Val.cast (val_neq rfl rfl rfl) (v' := .bool true) rfl) ?_
  refine Gq.val rfl rfl rfl (val_move rfl rfl) ?_
  refine Gq.valg rfl rfl rfl rfl rfl (Val.cast (val_fieldAddr rfl Try.underlying24 rfl Try.ty3 rfl rfl) (v' := ptr b1 1) rfl) ?_
  refine Gq.valg rfl rfl rfl rfl rfl (val_load rfl Try.ty3 rfl rfl (cell_rec (k := 0) rfl rfl)) ?_
  refine Gq.valg rfl rfl rfl rfl rfl (Val.cast (val_lss rfl rfl rfl) (v' := .bool false) rfl) ?_
  refine Gq.valg rfl rfl rfl rfl rfl (val_move rfl rfl) ?_
  refine Gq.valg rfl rfl rfl rfl rfl (Val.cast (val_fieldAddr rfl Try.underlying24 rfl Try.ty3 rfl rfl) (v' := ptr b1 1) rfl) ?_
  refine Gq.valg rfl rfl rfl rfl rfl (val_load rfl Try.ty3 rfl rfl (cell_rec (k := 0) rfl rfl)) ?_
  refine Gq.valg rfl rfl rfl rfl rfl (Val.cast (val_geq rfl rfl rfl) (v' := .bool false) rfl) ?_
  refine Gq.valg rfl rfl rfl rfl rfl (val_pickF rfl rfl rfl) ?_
  refine Gq.val rfl rfl rfl (val_pickT rfl rfl rfl) ?_
  refine Gq.val rfl rfl rfl (val_move rfl rfl) ?_
  refine Gq.valg rfl rfl rfl rfl rfl (Val.cast (val_fieldAddr rfl Try.underlying24 rfl Try.ty3 rfl rfl) (v' := ptr b1 0) rfl) ?_
  refine Gq.valg rfl rfl rfl rfl rfl (val_load rfl Try.ty3 rfl rfl (cell_rec (k := 0) rfl rfl)) ?_
  refine Gq.valg rfl rfl rfl rfl rfl (Val.cast (val_neq rfl rfl rfl) (v' := .bool false) rfl) ?_
  refine Gq.valg rfl rfl rfl rfl rfl (val_move rfl rfl) ?_
  refine Gq.skipg rfl rfl rfl rfl rfl rfl ?_
  refine Gq.skipg rfl rfl rfl rfl rfl rfl ?_
  refine Gq.skipg rfl rfl rfl rfl rfl rfl ?_
  refine Gq.skipg rfl rfl rfl rfl rfl rfl ?_
  refine Gq.skipu rfl rfl rfl rfl rfl ?_
  refine Gq.skipu rfl rfl rfl rfl rfl ?_
  refine Gq.skipu rfl rfl rfl rfl rfl ?_
  refine Gq.skipu rfl rfl rfl rfl rfl ?_
  refine Gq.skipu rfl rfl rfl rfl rfl ?_
  refine Gq.skipu rfl rfl rfl rfl rfl ?_
  refine Gq.skipu rfl rfl rfl rfl rfl ?_
  refine Gq.skipu rfl rfl rfl rfl rfl ?_
  refine Gq.skipg rfl rfl rfl rfl rfl rfl ?_
  refine Gq.valg rfl rfl rfl rfl rfl (val_pickF rfl rfl rfl) ?_
  refine Gq.val rfl rfl rfl (val_pickF rfl rfl rfl) ?_
  refine Gq.done ?_
  refine Gx.thenN ?_
  refine Gx.f rfl ?_
  refine Gx.skip ?_
  refine Gx.thenN ?_
  refine Gx.seq ?_
  refine Gx.seq ?_
  refine Gx.region ?_
  refine Gx.val rfl rfl rfl (Val.cast (val_fieldAddr rfl Try.underlying24 rfl Try.ty3 rfl rfl) (v' := ptr b1 0) rfl) ?_
  refine Gx.val rfl rfl rfl (val_load rfl Try.ty3 rfl rfl (cell_rec (k := 0) rfl rfl)) ?_
  refine Gx.done ?_
  refine Gx.thenN ?_
  refine Gx.block ?_
  refine Gx.seq ?_
  refine Gx.region ?_
  refine Gx.val rfl rfl rfl (Val.cast (val_eql rfl rfl rfl) (v' := .bool true) rfl) ?_
  refine Gx.val rfl rfl rfl (val_assign rfl rfl) ?_
  refine Gx.done ?_
  refine Gx.thenN ?_
  refine Gx.t rfl ?_
  refine Gx.seq ?_
  refine Gx.region ?_
  refine Gx.val rfl rfl rfl (val_move rfl rfl) ?_
  refine Gx.val rfl rfl rfl (Val.cast (val_loadA rfl Try.ty24 rfl rfl rfl (cells_rec (k := 0) rfl)) (v' := .agg #[.int .i64 1, .int .i64 2, .int .i64 lo, .int .i64 sr, .bool wr, .int .i64 val]) rfl) ?_
  refine Gx.val rfl rfl rfl (val_move rfl rfl) ?_
  refine Gx.eff rfl rfl rfl (eff_call (vs := [ptr S 0, .agg #[.int .i64 1, .int .i64 2, .int .i64 lo, .int .i64 sr, .bool wr, .int .i64 val], .int .i64 ((mom : Nat) : Int)]) rfl Try.fn14 rfl (fun w H => begin_no2 (H.at_ (k := 1) rfl))) ?_
  rintro _ l2 ⟨rfl, hl2⟩
  refine Gx.sepEq (l' := [regP S [a0, a1, some k, a3] cv ov cs mo, Hp.rec_ b1 [.int .i64 1, .int .i64 2, .int .i64 lo, .int .i64 sr, .bool wr, .int .i64 val], R]) hl2 ?_
  refine Gx.val rfl rfl rfl (val_assign rfl rfl) ?_
  refine Gx.done ?_
  refine Gx.thenN ?_
  refine Gx.ret ?_
  refine Gx.blkR ?_
  refine Gx.thenR ?_
  refine Gx.drop 1 rfl ?_
  refine Gx.ret1 Try.results11 rfl ?_
  exact ⟨rfl, sep1 _ _⟩

theorem step_begin2 {W w : World} {S mom : Nat} {a0 a1 a3 : Option Nat} {cv ov : Value} {cs : List Sd} {mo : List Om} {R : Hp}  {lo sr val : Int} {wr : Bool} (h0 : ∀ k, a0 = some k → k < mo.length) (h1 : ∀ k, a1 = some k → k < mo.length) (h3 : ∀ k, a3 = some k → k < mo.length) (hml : mo.length ≤ 1000) (H : Sat W w (regP S [a0, a1, none, a3] cv ov cs mo * R)) :
    Calls Try.prog 11 #[ptr S 0, .agg #[.int .i64 1, .int .i64 2, .int .i64 lo, .int .i64 sr, .bool wr, .int .i64 val], .int .i64 ((mom : Nat) : Int)] w (Ret W fun v l => ∃ (b b2 : Nat) (ov' : Value), v = .int .i64 0 ∧ sep l = regP S [a0, a1, some mo.length, a3] cv ov' cs (mo ++ [(⟨b, b2, newO 2 wr val mom⟩ : Om)]) * R) := by
  refine Gx.enter (l := [regP S [a0, a1, none, a3] cv ov cs mo, R]) Try.func11 rfl Try.ntmps11 rfl (H.frame1) ?_
  refine Gx.know (m' := [(0, ptr S 0), (1, .agg #[.int .i64 1, .int .i64 2, .int .i64 lo, .int .i64 sr, .bool wr, .int .i64 val]), (2, .int .i64 ((mom : Nat) : Int))]) (.cons rfl (.cons rfl (.cons rfl .nil))) ?_
  refine Gx.seq ?_
  refine Gx.region ?_
  refine Gx.eff rfl rfl rfl (eff_box rfl rfl (vs := [.int .i64 1, .int .i64 2, .int .i64 lo, .int .i64 sr, .bool wr, .int .i64 val]) rfl) ?_
  rintro _ _ ⟨b1, rfl, rfl⟩
  refine Gx.val rfl rfl rfl (val_assign rfl rfl) ?_
  refine Gx.done ?_
  refine Gx.thenN ?_
  refine Gx.seq ?_
  refine Gx.seq ?_
  refine Gx.region ?_
  refine Gx.val rfl rfl rfl (Val.cast (val_fieldAddr rfl Try.underlying24 rfl Try.ty3 rfl rfl) (v' := ptr b1 0) rfl) ?_
  refine Gx.val rfl rfl rfl (val_load rfl Try.ty3 rfl rfl (cell_rec (k := 0) rfl rfl)) ?_
  refine Gx.val rfl rfl rfl (Val.cast (val_lss rfl rfl rfl) (v' := .bool false) rfl) ?_
  refine Gx.val rfl rfl rfl (val_move rfl rfl) ?_
  refine Gx.valg rfl rfl rfl rfl rfl (Val.cast (val_fieldAddr rfl Try.underlying24 rfl Try.ty3 rfl rfl) (v' := ptr b1 0) rfl) ?_
  refine Gx.valg rfl rfl rfl rfl rfl (val_load rfl Try.ty3 rfl rfl (cell_rec (k := 0) rfl rfl)) ?_
  refine Gx.valg rfl rfl rfl rfl rfl (Val.cast (val_gtr rfl rfl rfl) (v' := .bool false) rfl) ?_
  refine Gx.val rfl rfl rfl (val_pickF rfl rfl rfl) ?_
  refine Gx.done ?_
  refine Gx.thenN ?_
  refine Gx.f rfl ?_
  refine Gx.skip ?_
  refine Gx.thenN ?_
  refine Gx.seq ?_
  refine Gx.seq ?_
  refine Gx.regionQ Try.mixed (by kernel_rfl) ?_
  refine Gq.val rfl rfl rfl (Val.cast (val_fieldAddr rfl Try.underlying24 rfl Try.ty3 rfl rfl) (v' := ptr b1 0) rfl) ?_
  refine Gq.val rfl rfl rfl (val_load rfl Try.ty3 rfl rfl (cell_rec (k := 0) rfl rfl)) ?_
  refine Gq.val rfl rfl rfl (Val.cast (val_neq rfl rfl rfl) (v' := .bool true) rfl) ?_
  refine Gq.val rfl rfl rfl (val_move rfl rfl) ?_
  refine Gq.valg rfl rfl rfl rfl rfl (Val.cast (val_fieldAddr rfl Try.underlying24 rfl Try.ty3 rfl rfl) (v' := ptr b1 1) rfl) ?_
  refine Gq.valg rfl rfl rfl rfl rfl (val_load rfl Try.ty3 rfl rfl (cell_rec (k := 0) rfl rfl)) ?_
  refine Gq.valg rfl rfl rfl rfl rfl (Val.cast (val_lss rfl rfl rfl) (v' := .bool false) rfl) ?_
  refine Gq.valg rfl rfl rfl rfl rfl (val_move rfl rfl) ?_
  refine Gq.valg rfl rfl rfl rfl rfl (Val.cast (val_fieldAddr rfl Try.underlying24 rfl Try.ty3 rfl rfl) (v' := ptr b1 1) rfl) ?_
  refine Gq.valg rfl rfl rfl rfl rfl (val_load rfl Try.ty3 rfl rfl (cell_rec (k := 0) rfl rfl)) ?_
  refine Gq.valg rfl rfl rfl rfl rfl (Val.cast (val_geq rfl rfl rfl) (v' := .bool false) rfl) ?_
  refine Gq.valg rfl rfl rfl rfl rfl (val_pickF rfl rfl rfl) ?_
  refine Gq.val rfl rfl rfl (val_pickT rfl rfl rfl) ?_
  refine Gq.val rfl rfl rfl (val_move rfl rfl) ?_
  refine Gq.valg rfl rfl rfl rfl rfl (Val.cast (val_fieldAddr rfl Try.underlying24 rfl Try.ty3 rfl rfl) (v' := ptr b1 0) rfl) ?_
  refine Gq.valg rfl rfl rfl rfl rfl (val_load rfl Try.ty3 rfl rfl (cell_rec (k := 0) rfl rfl)) ?_
  refine Gq.valg rfl rfl rfl rfl rfl (Val.cast (val_neq rfl rfl rfl) (v' := .bool false) rfl) ?_
  refine Gq.valg rfl rfl rfl rfl rfl (val_move rfl rfl) ?_
  refine Gq.skipg rfl rfl rfl rfl rfl rfl ?_
  refine Gq.skipg rfl rfl rfl rfl rfl rfl ?_
  refine Gq.skipg rfl rfl rfl rfl rfl rfl ?_
  refine Gq.skipg rfl rfl rfl rfl rfl rfl ?_
  refine Gq.skipu rfl rfl rfl rfl rfl ?_
  refine Gq.skipu rfl rfl rfl rfl rfl ?_
  refine Gq.skipu rfl rfl rfl rfl rfl ?_
  refine Gq.skipu rfl rfl rfl rfl rfl ?_
  refine Gq.skipu rfl rfl rfl rfl rfl ?_
  refine Gq.skipu rfl rfl rfl rfl rfl ?_
  refine Gq.skipu rfl rfl rfl rfl rfl ?_
  refine Gq.skipu rfl rfl rfl rfl rfl ?_
  refine Gq.skipg rfl rfl rfl rfl rfl rfl ?_
  refine Gq.valg rfl rfl rfl rfl rfl (val_pickF rfl rfl rfl) ?_
  refine Gq.val rfl rfl rfl (val_pickF rfl rfl rfl) ?_
  refine Gq.done ?_
  refine Gx.thenN ?_
  refine Gx.f rfl ?_
  refine Gx.skip ?_
  refine Gx.thenN ?_
  refine Gx.seq ?_
  refine Gx.seq ?_
  refine Gx.region ?_
  refine Gx.val rfl rfl rfl (Val.cast (val_fieldAddr rfl Try.underlying24 rfl Try.ty3 rfl rfl) (v' := ptr b1 0) rfl) ?_
  refine Gx.val rfl rfl rfl (val_load rfl Try.ty3 rfl rfl (cell_rec (k := 0) rfl rfl)) ?_
  refine Gx.done ?_
  refine Gx.thenN ?_
  refine Gx.block ?_
  refine Gx.seq ?_
  refine Gx.region ?_
  refine Gx.val rfl rfl rfl (Val.cast (val_eql rfl rfl rfl) (v' := .bool true) rfl) ?_
  refine Gx.val rfl rfl rfl (val_assign rfl rfl) ?_
  refine Gx.done ?_
  refine Gx.thenN ?_
  refine Gx.t rfl ?_
  refine Gx.seq ?_
  refine Gx.region ?_
  refine Gx.val rfl rfl rfl (val_move rfl rfl) ?_
  refine Gx.val rfl rfl rfl (Val.cast (val_loadA rfl Try.ty24 rfl rfl rfl (cells_rec (k := 0) rfl)) (v' := .agg #[.int .i64 1, .int .i64 2, .int .i64 lo, .int .i64 sr, .bool wr, .int .i64 val]) rfl) ?_
  refine Gx.val rfl rfl rfl (val_move rfl rfl) ?_
  refine Gx.eff rfl rfl rfl (eff_call (vs := [ptr S 0, .agg #[.int .i64 1, .int .i64 2, .int .i64 lo, .int .i64 sr, .bool wr, .int .i64 val], .int .i64 ((mom : Nat) : Int)]) rfl Try.fn14 rfl (fun w H => begin_yes2 h0 h1 h3 hml (H.at_ (k := 1) rfl))) ?_
  rintro _ l9 ⟨b, b2, ov', rfl, hio, hl9⟩
  refine Gx.sepEq (l' := [regP S [a0, a1, some mo.length, a3] cv ov' cs (mo ++ [(⟨b, b2, newO 2 wr val mom⟩ : Om)]), Hp.rec_ b1 [.int .i64 1, .int .i64 2, .int .i64 lo, .int .i64 sr, .bool wr, .int .i64 val], R]) hl9 ?_
  refine Gx.val rfl rfl rfl (val_assign rfl rfl) ?_
  refine Gx.done ?_
  refine Gx.thenN ?_
  refine Gx.ret ?_
  refine Gx.blkR ?_
  refine Gx.thenR ?_
  refine Gx.drop 1 rfl ?_
  refine Gx.ret1 Try.results11 rfl ?_
  exact ⟨b, b2, ov', rfl, sep1 _ _⟩

theorem step_reach_nil2 {W w : World} {i : Nat} {S mom : Nat} {a0 a1 a3 : Option Nat} {cv ov : Value} {cs : List Sd} {mo : List Om} {R : Hp} {sr val : Int} {wr : Bool}  (hi : i < cs.length) (h5 : cs.length ≤ 5) (H : Sat W w (regP S [a0, a1, none, a3] cv ov cs mo * R)) :
    Calls Try.prog 11 #[ptr S 0, .agg #[.int .i64 2, .int .i64 2, .int .i64 ((i : Nat) : Int), .int .i64 sr, .bool wr, .int .i64 val], .int .i64 ((mom : Nat) : Int)] w (Ret W fun v l => v = .int .i64 6 ∧ sep l = regP S [a0, a1, none, a3] cv ov cs mo * R) := by
  refine Gx.enter (l := [Hp.rec_ S [cv, ov, nowV (mo.map Om.b) a0, nowV (mo.map Om.b) a1, .pointer none, nowV (mo.map Om.b) a3], Hp.own Fsd 3 cv cs, Hp.own FP 1 ov (mo.map Om.b), Hp.big opH mo, R]) Try.func11 rfl Try.ntmps11 rfl ((regP_open H)) ?_
  refine Gx.know (m' := [(0, ptr S 0), (1, .agg #[.int .i64 2, .int .i64 2, .int .i64 ((i : Nat) : Int), .int .i64 sr, .bool wr, .int .i64 val]), (2, .int .i64 ((mom : Nat) : Int))]) (.cons rfl (.cons rfl (.cons rfl .nil))) ?_
  refine Gx.seq ?_
  refine Gx.region ?_
  refine Gx.eff rfl rfl rfl (eff_box rfl rfl (vs := [.int .i64 2, .int .i64 2, .int .i64 ((i : Nat) : Int), .int .i64 sr, .bool wr, .int .i64 val]) rfl) ?_
  rintro _ _ ⟨b1, rfl, rfl⟩
  refine Gx.val rfl rfl rfl (val_assign rfl rfl) ?_
  refine Gx.done ?_
  refine Gx.thenN ?_
  refine Gx.seq ?_
  refine Gx.seq ?_
  refine Gx.region ?_
  refine Gx.val rfl rfl rfl (Val.cast (val_fieldAddr rfl Try.underlying24 rfl Try.ty3 rfl rfl) (v' := ptr b1 0) rfl) ?_
  refine Gx.val rfl rfl rfl (val_load rfl Try.ty3 rfl rfl (cell_rec (k := 0) rfl rfl)) ?_
  refine Gx.val rfl rfl rfl (Val.cast (val_lss rfl rfl rfl) (v' := .bool false) rfl) ?_
  refine Gx.val rfl rfl rfl (val_move rfl rfl) ?_
  refine Gx.valg rfl rfl rfl rfl rfl (Val.cast (val_fieldAddr rfl Try.underlying24 rfl Try.ty3 rfl rfl) (v' := ptr b1 0) rfl) ?_
  refine Gx.valg rfl rfl rfl rfl rfl (val_load rfl Try.ty3 rfl rfl (cell_rec (k := 0) rfl rfl)) ?_
  refine Gx.valg rfl rfl rfl rfl rfl (Val.cast (val_gtr rfl rfl rfl) (v' := .bool false) rfl) ?_
  refine Gx.val rfl rfl rfl (val_pickF rfl rfl rfl) ?_
  refine Gx.done ?_
  refine Gx.thenN ?_
  refine Gx.f rfl ?_
  refine Gx.skip ?_
  refine Gx.thenN ?_
  refine Gx.seq ?_
  refine Gx.seq ?_
  refine Gx.regionQ Try.mixed (by kernel_rfl) ?_
  refine Gq.val rfl rfl rfl (Val.cast (val_fieldAddr rfl Try.underlying24 rfl Try.ty3 rfl rfl) (v' := ptr b1 0) rfl) ?_
  refine Gq.val rfl rfl rfl (val_load rfl Try.ty3 rfl rfl (cell_rec (k := 0) rfl rfl)) ?_
  refine Gq.val rfl rfl rfl (Val.cast (val_neq rfl rfl rfl) (v' := .bool true) rfl) ?_
  refine Gq.val rfl rfl rfl (val_move rfl rfl) ?_
  refine Gq.valg rfl rfl rfl rfl rfl (Val.cast (val_fieldAddr rfl Try.underlying24 rfl Try.ty3 rfl rfl) (v' := ptr b1 1) rfl) ?_
  refine Gq.valg rfl rfl rfl rfl rfl (val_load rfl Try.ty3 rfl rfl (cell_rec (k := 0) rfl rfl)) ?_
  refine Gq.valg rfl rfl rfl rfl rfl (Val.cast (val_lss rfl rfl rfl) (v' := .bool false) rfl) ?_
  refine Gq.valg rfl rfl rfl rfl rfl (val_move rfl rfl) ?_
  refine Gq.valg rfl rfl rfl rfl rfl (Val.cast (val_fieldAddr rfl Try.underlying24 rfl Try.ty3 rfl rfl) (v' := ptr b1 1) rfl) ?_
  refine Gq.valg rfl rfl rfl rfl rfl (val_load rfl Try.ty3 rfl rfl (cell_rec (k := 0) rfl rfl)) ?_
  refine Gq.valg rfl rfl rfl rfl rfl (Val.cast (val_geq rfl rfl rfl) (v' := .bool false) rfl) ?_
  refine Gq.valg rfl rfl rfl rfl rfl (val_pickF rfl rfl rfl) ?_
  refine Gq.val rfl rfl rfl (val_pickT rfl rfl rfl) ?_
  refine Gq.val rfl rfl rfl (val_move rfl rfl) ?_
  refine Gq.valg rfl rfl rfl rfl rfl (Val.cast (val_fieldAddr rfl Try.underlying24 rfl Try.ty3 rfl rfl) (v' := ptr b1 0) rfl) ?_
  refine Gq.valg rfl rfl rfl rfl rfl (val_load rfl Try.ty3 rfl rfl (cell_rec (k := 0) rfl rfl)) ?_
  refine Gq.valg rfl rfl rfl rfl rfl (Val.cast (val_neq rfl rfl rfl) (v' := .bool true) rfl) ?_
  refine Gq.valg rfl rfl rfl rfl rfl (val_move rfl rfl) ?_
  refine Gq.valg rfl rfl rfl rfl rfl (Val.cast (val_fieldAddr rfl Try.underlying24 rfl Try.ty3 rfl rfl) (v' := ptr b1 2) rfl) ?_
  refine Gq.valg rfl rfl rfl rfl rfl (val_load rfl Try.ty3 rfl rfl (cell_rec (k := 0) rfl rfl)) ?_
  refine Gq.valg rfl rfl rfl rfl rfl (val_lss rfl rfl rfl) ?_
  refine Gq.valg rfl rfl rfl rfl rfl (val_move rfl rfl) ?_
  refine Gq.slot (t := 36) (v := .bool false) (look_decF rfl (by omega)) ?_
  refine Gq.valg rfl rfl rfl rfl rfl (Val.cast (val_fieldAddr rfl Try.underlying24 rfl Try.ty3 rfl rfl) (v' := ptr b1 2) rfl) ?_
  refine Gq.valg rfl rfl rfl rfl rfl (val_load rfl Try.ty3 rfl rfl (cell_rec (k := 0) rfl rfl)) ?_
  refine Gq.valg rfl rfl rfl rfl rfl (val_move rfl rfl) ?_
  refine Gq.valg rfl rfl rfl rfl rfl (val_nilCheck rfl rfl) ?_
  refine Gq.valg rfl rfl rfl rfl rfl (Val.cast (val_fieldAddr rfl Try.underlying47 rfl Try.ty42 rfl rfl) (v' := ptr S 0) rfl) ?_
  refine Gq.valg rfl rfl rfl rfl rfl (val_load rfl Try.ty42 rfl rfl (cell_rec (k := 1) rfl rfl)) ?_
  refine Gq.valg rfl rfl rfl rfl rfl (val_len rfl Try.underlying42 rfl (len_own (k := 2) rfl)) ?_
  refine Gq.valg rfl rfl rfl rfl rfl (val_geq rfl rfl rfl) ?_
  refine Gq.valg rfl rfl rfl rfl rfl (val_pickF rfl rfl rfl) ?_
  refine Gq.valg rfl rfl rfl rfl rfl (val_pickT rfl rfl rfl) ?_
  refine Gq.val rfl rfl rfl (val_pickF rfl rfl rfl) ?_
  refine Gq.done ?_
  refine Gx.thenN ?_
  refine Gx.decF rfl (by omega) ?_
  refine Gx.skip ?_
  refine Gx.thenN ?_
  refine Gx.seq ?_
  refine Gx.seq ?_
  refine Gx.region ?_
  refine Gx.val rfl rfl rfl (Val.cast (val_fieldAddr rfl Try.underlying24 rfl Try.ty3 rfl rfl) (v' := ptr b1 0) rfl) ?_
  refine Gx.val rfl rfl rfl (val_load rfl Try.ty3 rfl rfl (cell_rec (k := 0) rfl rfl)) ?_
  refine Gx.done ?_
  refine Gx.thenN ?_
  refine Gx.block ?_
  refine Gx.seq ?_
  refine Gx.region ?_
  refine Gx.val rfl rfl rfl (Val.cast (val_eql rfl rfl rfl) (v' := .bool false) rfl) ?_
  refine Gx.val rfl rfl rfl (val_assign rfl rfl) ?_
  refine Gx.done ?_
  refine Gx.thenN ?_
  refine Gx.f rfl ?_
  refine Gx.seq ?_
  refine Gx.region ?_
  refine Gx.val rfl rfl rfl (Val.cast (val_eql rfl rfl rfl) (v' := .bool true) rfl) ?_
  refine Gx.val rfl rfl rfl (val_assign rfl rfl) ?_
  refine Gx.done ?_
  refine Gx.thenN ?_
  refine Gx.t rfl ?_
  refine Gx.seq ?_
  refine Gx.regionO (fun j => false) 11 [0, 1, 2, 3, 4, 5, 6, 7, 8, 9, 10] (fun _ => [Hp.rec_ b1 [.int .i64 2, .int .i64 2, .int .i64 ((i : Nat) : Int), .int .i64 sr, .bool wr, .int .i64 val], Hp.rec_ S [cv, ov, nowV (mo.map Om.b) a0, nowV (mo.map Om.b) a1, .pointer none, nowV (mo.map Om.b) a3], Hp.own Fsd 3 cv cs, Hp.own FP 1 ov (mo.map Om.b), Hp.big opH mo, R]) Try.mixed (by kernel_rfl) rfl ?_
  refine Gw.val rfl rfl rfl rfl rfl (fun us => val_move rfl rfl) ?_
  refine Gw.val rfl rfl rfl rfl rfl (fun us => val_move rfl rfl) ?_
  refine Gw.val rfl rfl rfl rfl rfl (fun us => Val.cast (val_fieldAddr rfl Try.underlying24 rfl Try.ty3 rfl rfl) (v' := ptr b1 1) rfl) ?_
  refine Gw.val0 rfl rfl rfl (by kernel_rfl) rfl rfl (val_load rfl Try.ty3 rfl rfl (cell_rec (k := 0) rfl rfl)) ?_
  refine Gw.val rfl rfl rfl rfl rfl (fun us => val_nilCheck rfl rfl) ?_
  refine Gw.val rfl rfl rfl rfl rfl (fun us => Val.cast (val_fieldAddr rfl Try.underlying47 rfl Try.ty45 rfl rfl) (v' := ptr S 2) rfl) ?_
  refine Gw.val rfl rfl rfl rfl rfl (fun us => Val.cast (val_ixaA rfl Try.underlying45 Try.ty44 rfl rfl (j := 2) (rfl) (by omega)) (v' := ptr S 4) rfl) ?_
  refine Gw.val0 rfl rfl rfl (by kernel_rfl) rfl rfl (val_load rfl Try.ty44 rfl rfl (cell_rec (k := 1) rfl rfl)) ?_
  refine Gw.val rfl rfl rfl rfl rfl (fun us => Val.cast (val_fieldAddr rfl Try.underlying24 rfl Try.ty3 rfl rfl) (v' := ptr b1 2) rfl) ?_
  refine Gw.val0 rfl rfl rfl (by kernel_rfl) rfl rfl (val_load rfl Try.ty3 rfl rfl (cell_rec (k := 0) rfl rfl)) ?_
  refine Gw.val rfl rfl rfl rfl rfl (fun us => val_move rfl rfl) ?_
  refine Gw.done ?_
  refine Gx.norm (l' := [Hp.rec_ b1 [.int .i64 2, .int .i64 2, .int .i64 ((i : Nat) : Int), .int .i64 sr, .bool wr, .int .i64 val], Hp.rec_ S [cv, ov, nowV (mo.map Om.b) a0, nowV (mo.map Om.b) a1, .pointer none, nowV (mo.map Om.b) a3], Hp.own Fsd 3 cv cs, Hp.own FP 1 ov (mo.map Om.b), Hp.big opH mo, R]) rfl ?_
  refine Gx.drop 0 rfl ?_
  refine Gx.sepEq (l' := [regP S [a0, a1, none, a3] cv ov cs mo, R]) ((regP_shut (a0 := a0) (a1 := a1) (a2 := none) (a3 := a3)).trans (sep1 _ _).symm) ?_
  refine Gx.eff rfl rfl rfl (eff_call (vs := [ptr S 0, .pointer none, .int .i64 ((i : Nat) : Int), .int .i64 ((mom : Nat) : Int)]) rfl Try.fn15 rfl (fun w H => reach_nil H)) ?_
  rintro _ l2 ⟨rfl, hl2⟩
  refine Gx.sepEq (l' := [regP S [a0, a1, none, a3] cv ov cs mo, R]) hl2 ?_
  refine Gx.val rfl rfl rfl (val_assign rfl rfl) ?_
  refine Gx.done ?_
  refine Gx.thenN ?_
  refine Gx.ret ?_
  refine Gx.blkR ?_
  refine Gx.thenR ?_
  refine Gx.ret1 Try.results11 rfl ?_
  exact ⟨rfl, sep1 _ _⟩

theorem step_reach_seen2 {W w : World} {i : Nat} {S mom : Nat} {a0 a1 a3 : Option Nat} {cv ov : Value} {cs : List Sd} {mo : List Om} {R : Hp} {sr val : Int} {wr : Bool} {k : Nat} {m : Om} (hk : mo[k]? = some m) (hs : i ∈ m.o.seen) (hmk : mk m.o.seen < 4294967296) (hi : i < cs.length) (h5 : cs.length ≤ 5) (H : Sat W w (regP S [a0, a1, some k, a3] cv ov cs mo * R)) :
    Calls Try.prog 11 #[ptr S 0, .agg #[.int .i64 2, .int .i64 2, .int .i64 ((i : Nat) : Int), .int .i64 sr, .bool wr, .int .i64 val], .int .i64 ((mom : Nat) : Int)] w (Ret W fun v l => v = .int .i64 6 ∧ sep l = regP S [a0, a1, some k, a3] cv ov cs mo * R) := by
  refine Gx.enter (l := [Hp.rec_ S [cv, ov, nowV (mo.map Om.b) a0, nowV (mo.map Om.b) a1, ptr m.b 0, nowV (mo.map Om.b) a3], Hp.own Fsd 3 cv cs, Hp.own FP 1 ov (mo.map Om.b), Hp.big opH mo, R]) Try.func11 rfl Try.ntmps11 rfl ((by have e9 := regP_open H; rw [nowV_at hk] at e9; exact e9)) ?_
  refine Gx.know (m' := [(0, ptr S 0), (1, .agg #[.int .i64 2, .int .i64 2, .int .i64 ((i : Nat) : Int), .int .i64 sr, .bool wr, .int .i64 val]), (2, .int .i64 ((mom : Nat) : Int))]) (.cons rfl (.cons rfl (.cons rfl .nil))) ?_
  refine Gx.seq ?_
  refine Gx.region ?_
  refine Gx.eff rfl rfl rfl (eff_box rfl rfl (vs := [.int .i64 2, .int .i64 2, .int .i64 ((i : Nat) : Int), .int .i64 sr, .bool wr, .int .i64 val]) rfl) ?_
  rintro _ _ ⟨b1, rfl, rfl⟩
  refine Gx.val rfl rfl rfl (val_assign rfl rfl) ?_
  refine Gx.done ?_
  refine Gx.thenN ?_
  refine Gx.seq ?_
  refine Gx.seq ?_
  refine Gx.region ?_
  refine Gx.val rfl rfl rfl (Val.cast (val_fieldAddr rfl Try.underlying24 rfl Try.ty3 rfl rfl) (v' := ptr b1 0) rfl) ?_
  refine Gx.val rfl rfl rfl (val_load rfl Try.ty3 rfl rfl (cell_rec (k := 0) rfl rfl)) ?_
  refine Gx.val rfl rfl rfl (Val.cast (val_lss rfl rfl rfl) (v' := .bool false) rfl) ?_
  refine Gx.val rfl rfl rfl (val_move rfl rfl) ?_
  refine Gx.valg rfl rfl rfl rfl rfl (Val.cast (val_fieldAddr rfl Try.underlying24 rfl Try.ty3 rfl rfl) (v' := ptr b1 0) rfl) ?_
  refine Gx.valg rfl rfl rfl rfl rfl (val_load rfl Try.ty3 rfl rfl (cell_rec (k := 0) rfl rfl)) ?_
  refine Gx.valg rfl rfl rfl rfl rfl (Val.cast (val_gtr rfl rfl rfl) (v' := .bool false) rfl) ?_
  refine Gx.val rfl rfl rfl (val_pickF rfl rfl rfl) ?_
  refine Gx.done ?_
  refine Gx.thenN ?_
  refine Gx.f rfl ?_
  refine Gx.skip ?_
  refine Gx.thenN ?_
  refine Gx.seq ?_
  refine Gx.seq ?_
  refine Gx.regionQ Try.mixed (by kernel_rfl) ?_
  refine Gq.val rfl rfl rfl (Val.cast (val_fieldAddr rfl Try.underlying24 rfl Try.ty3 rfl rfl) (v' := ptr b1 0) rfl) ?_
  refine Gq.val rfl rfl rfl (val_load rfl Try.ty3 rfl rfl (cell_rec (k := 0) rfl rfl)) ?_
  refine Gq.val rfl rfl rfl (Val.cast (val_neq rfl rfl rfl) (v' := .bool true) rfl) ?_
  refine Gq.val rfl rfl rfl (val_move rfl rfl) ?_
  refine Gq.valg rfl rfl rfl rfl rfl (Val.cast (val_fieldAddr rfl Try.underlying24 rfl Try.ty3 rfl rfl) (v' := ptr b1 1) rfl) ?_
  refine Gq.valg rfl rfl rfl rfl rfl (val_load rfl Try.ty3 rfl rfl (cell_rec (k := 0) rfl rfl)) ?_
  refine Gq.valg rfl rfl rfl rfl rfl (Val.cast (val_lss rfl rfl rfl) (v' := .bool false) rfl) ?_
  refine Gq.valg rfl rfl rfl rfl rfl (val_move rfl rfl) ?_
  refine Gq.valg rfl rfl rfl rfl rfl (Val.cast (val_fieldAddr rfl Try.underlying24 rfl Try.ty3 rfl rfl) (v' := ptr b1 1) rfl) ?_
  refine Gq.valg rfl rfl rfl rfl rfl (val_load rfl Try.ty3 rfl rfl (cell_rec (k := 0) rfl rfl)) ?_
  refine Gq.valg rfl rfl rfl rfl rfl (Val.cast (val_geq rfl rfl rfl) (v' := .bool false) rfl) ?_
  refine Gq.valg rfl rfl rfl rfl rfl (val_pickF rfl rfl rfl) ?_
  refine Gq.val rfl rfl rfl (val_pickT rfl rfl rfl) ?_
  refine Gq.val rfl rfl rfl (val_move rfl rfl) ?_
  refine Gq.valg rfl rfl rfl rfl rfl (Val.cast (val_fieldAddr rfl Try.underlying24 rfl Try.ty3 rfl rfl) (v' := ptr b1 0) rfl) ?_
  refine Gq.valg rfl rfl rfl rfl rfl (val_load rfl Try.ty3 rfl rfl (cell_rec (k := 0) rfl rfl)) ?_
  refine Gq.valg rfl rfl rfl rfl rfl (Val.cast (val_neq rfl rfl rfl) (v' := .bool true) rfl) ?_
  refine Gq.valg rfl rfl rfl rfl rfl (val_move rfl rfl) ?_
  refine Gq.valg rfl rfl rfl rfl rfl (Val.cast (val_fieldAddr rfl Try.underlying24 rfl Try.ty3 rfl rfl) (v' := ptr b1 2) rfl) ?_
  refine Gq.valg rfl rfl rfl rfl rfl (val_load rfl Try.ty3 rfl rfl (cell_rec (k := 0) rfl rfl)) ?_
  refine Gq.valg rfl rfl rfl rfl rfl (val_lss rfl rfl rfl) ?_
  refine Gq.valg rfl rfl rfl rfl rfl (val_move rfl rfl) ?_
  refine Gq.slot (t := 36) (v := .bool false) (look_decF rfl (by omega)) ?_
  refine Gq.valg rfl rfl rfl rfl rfl (Val.cast (val_fieldAddr rfl Try.underlying24 rfl Try.ty3 rfl rfl) (v' := ptr b1 2) rfl) ?_
  refine Gq.valg rfl rfl rfl rfl rfl (val_load rfl Try.ty3 rfl rfl (cell_rec (k := 0) rfl rfl)) ?_
  refine Gq.valg rfl rfl rfl rfl rfl (val_move rfl rfl) ?_
  refine Gq.valg rfl rfl rfl rfl rfl (val_nilCheck rfl rfl) ?_
  refine Gq.valg rfl rfl rfl rfl rfl (Val.cast (val_fieldAddr rfl Try.underlying47 rfl Try.ty42 rfl rfl) (v' := ptr S 0) rfl) ?_
  refine Gq.valg rfl rfl rfl rfl rfl (val_load rfl Try.ty42 rfl rfl (cell_rec (k := 1) rfl rfl)) ?_
  refine Gq.valg rfl rfl rfl rfl rfl (val_len rfl Try.underlying42 rfl (len_own (k := 2) rfl)) ?_
  refine Gq.valg rfl rfl rfl rfl rfl (val_geq rfl rfl rfl) ?_
  refine Gq.valg rfl rfl rfl rfl rfl (val_pickF rfl rfl rfl) ?_
  refine Gq.valg rfl rfl rfl rfl rfl (val_pickT rfl rfl rfl) ?_
  refine Gq.val rfl rfl rfl (val_pickF rfl rfl rfl) ?_
  refine Gq.done ?_
  refine Gx.thenN ?_
  refine Gx.decF rfl (by omega) ?_
  refine Gx.skip ?_
  refine Gx.thenN ?_
  refine Gx.seq ?_
  refine Gx.seq ?_
  refine Gx.region ?_
  refine Gx.val rfl rfl rfl (Val.cast (val_fieldAddr rfl Try.underlying24 rfl Try.ty3 rfl rfl) (v' := ptr b1 0) rfl) ?_
  refine Gx.val rfl rfl rfl (val_load rfl Try.ty3 rfl rfl (cell_rec (k := 0) rfl rfl)) ?_
  refine Gx.done ?_
  refine Gx.thenN ?_
  refine Gx.block ?_
  refine Gx.seq ?_
  refine Gx.region ?_
  refine Gx.val rfl rfl rfl (Val.cast (val_eql rfl rfl rfl) (v' := .bool false) rfl) ?_
  refine Gx.val rfl rfl rfl (val_assign rfl rfl) ?_
  refine Gx.done ?_
  refine Gx.thenN ?_
  refine Gx.f rfl ?_
  refine Gx.seq ?_
  refine Gx.region ?_
  refine Gx.val rfl rfl rfl (Val.cast (val_eql rfl rfl rfl) (v' := .bool true) rfl) ?_
  refine Gx.val rfl rfl rfl (val_assign rfl rfl) ?_
  refine Gx.done ?_
  refine Gx.thenN ?_
  refine Gx.t rfl ?_
  refine Gx.seq ?_
  refine Gx.regionO (fun j => false) 11 [0, 1, 2, 3, 4, 5, 6, 7, 8, 9, 10] (fun _ => [Hp.rec_ b1 [.int .i64 2, .int .i64 2, .int .i64 ((i : Nat) : Int), .int .i64 sr, .bool wr, .int .i64 val], Hp.rec_ S [cv, ov, nowV (mo.map Om.b) a0, nowV (mo.map Om.b) a1, ptr m.b 0, nowV (mo.map Om.b) a3], Hp.own Fsd 3 cv cs, Hp.own FP 1 ov (mo.map Om.b), Hp.big opH mo, R]) Try.mixed (by kernel_rfl) rfl ?_
  refine Gw.val rfl rfl rfl rfl rfl (fun us => val_move rfl rfl) ?_
  refine Gw.val rfl rfl rfl rfl rfl (fun us => val_move rfl rfl) ?_
  refine Gw.val rfl rfl rfl rfl rfl (fun us => Val.cast (val_fieldAddr rfl Try.underlying24 rfl Try.ty3 rfl rfl) (v' := ptr b1 1) rfl) ?_
  refine Gw.val0 rfl rfl rfl (by kernel_rfl) rfl rfl (val_load rfl Try.ty3 rfl rfl (cell_rec (k := 0) rfl rfl)) ?_
  refine Gw.val rfl rfl rfl rfl rfl (fun us => val_nilCheck rfl rfl) ?_
  refine Gw.val rfl rfl rfl rfl rfl (fun us => Val.cast (val_fieldAddr rfl Try.underlying47 rfl Try.ty45 rfl rfl) (v' := ptr S 2) rfl) ?_
  refine Gw.val rfl rfl rfl rfl rfl (fun us => Val.cast (val_ixaA rfl Try.underlying45 Try.ty44 rfl rfl (j := 2) (rfl) (by omega)) (v' := ptr S 4) rfl) ?_
  refine Gw.val0 rfl rfl rfl (by kernel_rfl) rfl rfl (val_load rfl Try.ty44 rfl rfl (cell_rec (k := 1) rfl rfl)) ?_
  refine Gw.val rfl rfl rfl rfl rfl (fun us => Val.cast (val_fieldAddr rfl Try.underlying24 rfl Try.ty3 rfl rfl) (v' := ptr b1 2) rfl) ?_
  refine Gw.val0 rfl rfl rfl (by kernel_rfl) rfl rfl (val_load rfl Try.ty3 rfl rfl (cell_rec (k := 0) rfl rfl)) ?_
  refine Gw.val rfl rfl rfl rfl rfl (fun us => val_move rfl rfl) ?_
  refine Gw.done ?_
  refine Gx.norm (l' := [Hp.rec_ b1 [.int .i64 2, .int .i64 2, .int .i64 ((i : Nat) : Int), .int .i64 sr, .bool wr, .int .i64 val], Hp.rec_ S [cv, ov, nowV (mo.map Om.b) a0, nowV (mo.map Om.b) a1, ptr m.b 0, nowV (mo.map Om.b) a3], Hp.own Fsd 3 cv cs, Hp.own FP 1 ov (mo.map Om.b), Hp.big opH mo, R]) rfl ?_
  refine Gx.drop 0 rfl ?_
  refine Gx.sepEq (l' := [regP S [a0, a1, some k, a3] cv ov cs mo, R]) (by have e9 := regP_shut (S := S) (cv := cv) (ov := ov) (cs := cs) (mo := mo) (R := R) (a0 := a0) (a1 := a1) (a2 := some k) (a3 := a3); rw [nowV_at hk] at e9; exact e9.trans (sep1 _ _).symm) ?_
  refine Gx.eff rfl rfl rfl (eff_call (vs := [ptr S 0, ptr m.b 0, .int .i64 ((i : Nat) : Int), .int .i64 ((mom : Nat) : Int)]) rfl Try.fn15 rfl (fun w H => reach_seen hk hs (by omega) hmk (H.at_ (k := 0) rfl))) ?_
  rintro _ l2 ⟨rfl, hl2⟩
  refine Gx.sepEq (l' := [regP S [a0, a1, some k, a3] cv ov cs mo, R]) hl2 ?_
  refine Gx.val rfl rfl rfl (val_assign rfl rfl) ?_
  refine Gx.done ?_
  refine Gx.thenN ?_
  refine Gx.ret ?_
  refine Gx.blkR ?_
  refine Gx.thenR ?_
  refine Gx.ret1 Try.results11 rfl ?_
  exact ⟨rfl, sep1 _ _⟩

theorem step_reach_go2 {W w : World} {i : Nat} {S mom : Nat} {a0 a1 a3 : Option Nat} {cv ov : Value} {cs : List Sd} {mo : List Om} {R : Hp} {sr val : Int} {wr : Bool} {k : Nat} {m : Om} (hk : mo[k]? = some m) (hw : m.o.who = 2) (hs : ¬ i ∈ m.o.seen) (hmk : mk m.o.seen < 4294967296) (hmany : m.o.many ≤ 5) (hbn : m.o.best.n ≤ 1000) (hcn : ∀ c ∈ cs, c.n ≤ 1000) (hi : i < cs.length) (h5 : cs.length ≤ 5) (H : Sat W w (regP S [a0, a1, some k, a3] cv ov cs mo * R)) :
    Calls Try.prog 11 #[ptr S 0, .agg #[.int .i64 2, .int .i64 2, .int .i64 ((i : Nat) : Int), .int .i64 sr, .bool wr, .int .i64 val], .int .i64 ((mom : Nat) : Int)] w (Ret W fun v l => v = .int .i64 0 ∧ sep l = regP S (if 2 * (m.o.many + 1) ≤ cs.length then [a0, a1, some k, a3] else if m.o.sec = true then [a0, a1, none, a3] else [a0, a1, some k, a3]) cv ov (if m.o.sec = true then storeR cs i m.o.best else cs) (mo.set k ⟨m.b, m.b2, if 2 * (m.o.many + 1) ≤ cs.length then seeR cs i m.o else turnO (seeR cs i m.o) mom⟩) * R) := by
  refine Gx.enter (l := [Hp.rec_ S [cv, ov, nowV (mo.map Om.b) a0, nowV (mo.map Om.b) a1, ptr m.b 0, nowV (mo.map Om.b) a3], Hp.own Fsd 3 cv cs, Hp.own FP 1 ov (mo.map Om.b), Hp.big opH mo, R]) Try.func11 rfl Try.ntmps11 rfl ((by have e9 := regP_open H; rw [nowV_at hk] at e9; exact e9)) ?_
  refine Gx.know (m' := [(0, ptr S 0), (1, .agg #[.int .i64 2, .int .i64 2, .int .i64 ((i : Nat) : Int), .int .i64 sr, .bool wr, .int .i64 val]), (2, .int .i64 ((mom : Nat) : Int))]) (.cons rfl (.cons rfl (.cons rfl .nil))) ?_
  refine Gx.seq ?_
  refine Gx.region ?_
  refine Gx.eff rfl rfl rfl (eff_box rfl rfl (vs := [.int .i64 2, .int .i64 2, .int .i64 ((i : Nat) : Int), .int .i64 sr, .bool wr, .int .i64 val]) rfl) ?_
  rintro _ _ ⟨b1, rfl, rfl⟩
  refine Gx.val rfl rfl rfl (val_assign rfl rfl) ?_
  refine Gx.done ?_
  refine Gx.thenN ?_
  refine Gx.seq ?_
  refine Gx.seq ?_
  refine Gx.region ?_
  refine Gx.val rfl rfl rfl (Val.cast (val_fieldAddr rfl Try.underlying24 rfl Try.ty3 rfl rfl) (v' := ptr b1 0) rfl) ?_
  refine Gx.val rfl rfl rfl (val_load rfl Try.ty3 rfl rfl (cell_rec (k := 0) rfl rfl)) ?_
  refine Gx.val rfl rfl rfl (Val.cast (val_lss rfl rfl rfl) (v' := .bool false) rfl) ?_
  refine Gx.val rfl rfl rfl (val_move rfl rfl) ?_
  refine Gx.valg rfl rfl rfl rfl rfl (Val.cast (val_fieldAddr rfl Try.underlying24 rfl Try.ty3 rfl rfl) (v' := ptr b1 0) rfl) ?_
  refine Gx.valg rfl rfl rfl rfl rfl (val_load rfl Try.ty3 rfl rfl (cell_rec (k := 0) rfl rfl)) ?_
  refine Gx.valg rfl rfl rfl rfl rfl (Val.cast (val_gtr rfl rfl rfl) (v' := .bool false) rfl) ?_
  refine Gx.val rfl rfl rfl (val_pickF rfl rfl rfl) ?_
  refine Gx.done ?_
  refine Gx.thenN ?_
  refine Gx.f rfl ?_
  refine Gx.skip ?_
  refine Gx.thenN ?_
  refine Gx.seq ?_
  refine Gx.seq ?_
  refine Gx.regionQ Try.mixed (by kernel_rfl) ?_
  refine Gq.val rfl rfl rfl (Val.cast (val_fieldAddr rfl Try.underlying24 rfl Try.ty3 rfl rfl) (v' := ptr b1 0) rfl) ?_
  refine Gq.val rfl rfl rfl (val_load rfl Try.ty3 rfl rfl (cell_rec (k := 0) rfl rfl)) ?_
  refine Gq.val rfl rfl rfl (Val.cast (val_neq rfl rfl rfl) (v' := .bool true) rfl) ?_
  refine Gq.val rfl rfl rfl (val_move rfl rfl) ?_
  refine Gq.valg rfl rfl rfl rfl rfl (Val.cast (val_fieldAddr rfl Try.underlying24 rfl Try.ty3 rfl rfl) (v' := ptr b1 1) rfl) ?_
  refine Gq.valg rfl rfl rfl rfl rfl (val_load rfl Try.ty3 rfl rfl (cell_rec (k := 0) rfl rfl)) ?_
  refine Gq.valg rfl rfl rfl rfl rfl (Val.cast (val_lss rfl rfl rfl) (v' := .bool false) rfl) ?_
  refine Gq.valg rfl rfl rfl rfl rfl (val_move rfl rfl) ?_
  refine Gq.valg rfl rfl rfl rfl rfl (Val.cast (val_fieldAddr rfl Try.underlying24 rfl Try.ty3 rfl rfl) (v' := ptr b1 1) rfl) ?_
  refine Gq.valg rfl rfl rfl rfl rfl (val_load rfl Try.ty3 rfl rfl (cell_rec (k := 0) rfl rfl)) ?_
  refine Gq.valg rfl rfl rfl rfl rfl (Val.cast (val_geq rfl rfl rfl) (v' := .bool false) rfl) ?_
  refine Gq.valg rfl rfl rfl rfl rfl (val_pickF rfl rfl rfl) ?_
  refine Gq.val rfl rfl rfl (val_pickT rfl rfl rfl) ?_
  refine Gq.val rfl rfl rfl (val_move rfl rfl) ?_
  refine Gq.valg rfl rfl rfl rfl rfl (Val.cast (val_fieldAddr rfl Try.underlying24 rfl Try.ty3 rfl rfl) (v' := ptr b1 0) rfl) ?_
  refine Gq.valg rfl rfl rfl rfl rfl (val_load rfl Try.ty3 rfl rfl (cell_rec (k := 0) rfl rfl)) ?_
  refine Gq.valg rfl rfl rfl rfl rfl (Val.cast (val_neq rfl rfl rfl) (v' := .bool true) rfl) ?_
  refine Gq.valg rfl rfl rfl rfl rfl (val_move rfl rfl) ?_
  refine Gq.valg rfl rfl rfl rfl rfl (Val.cast (val_fieldAddr rfl Try.underlying24 rfl Try.ty3 rfl rfl) (v' := ptr b1 2) rfl) ?_
  refine Gq.valg rfl rfl rfl rfl rfl (val_load rfl Try.ty3 rfl rfl (cell_rec (k := 0) rfl rfl)) ?_
  refine Gq.valg rfl rfl rfl rfl rfl (val_lss rfl rfl rfl) ?_
  refine Gq.valg rfl rfl rfl rfl rfl (val_move rfl rfl) ?_
  refine Gq.slot (t := 36) (v := .bool false) (look_decF rfl (by omega)) ?_
  refine Gq.valg rfl rfl rfl rfl rfl (Val.cast (val_fieldAddr rfl Try.underlying24 rfl Try.ty3 rfl rfl) (v' := ptr b1 2) rfl) ?_
  refine Gq.valg rfl rfl rfl rfl rfl (val_load rfl Try.ty3 rfl rfl (cell_rec (k := 0) rfl rfl)) ?_
  refine Gq.valg rfl rfl rfl rfl rfl (val_move rfl rfl) ?_
  refine Gq.valg rfl rfl rfl rfl rfl (val_nilCheck rfl rfl) ?_
  refine Gq.valg rfl rfl rfl rfl rfl (Val.cast (val_fieldAddr rfl Try.underlying47 rfl Try.ty42 rfl rfl) (v' := ptr S 0) rfl) ?_
  refine Gq.valg rfl rfl rfl rfl rfl (val_load rfl Try.ty42 rfl rfl (cell_rec (k := 1) rfl rfl)) ?_
  refine Gq.valg rfl rfl rfl rfl rfl (val_len rfl Try.underlying42 rfl (len_own (k := 2) rfl)) ?_
  refine Gq.valg rfl rfl rfl rfl rfl (val_geq rfl rfl rfl) ?_
  refine Gq.valg rfl rfl rfl rfl rfl (val_pickF rfl rfl rfl) ?_
  refine Gq.valg rfl rfl rfl rfl rfl (val_pickT rfl rfl rfl) ?_
  refine Gq.val rfl rfl rfl (val_pickF rfl rfl rfl) ?_
  refine Gq.done ?_
  refine Gx.thenN ?_
  refine Gx.decF rfl (by omega) ?_
  refine Gx.skip ?_
  refine Gx.thenN ?_
  refine Gx.seq ?_
  refine Gx.seq ?_
  refine Gx.region ?_
  refine Gx.val rfl rfl rfl (Val.cast (val_fieldAddr rfl Try.underlying24 rfl Try.ty3 rfl rfl) (v' := ptr b1 0) rfl) ?_
  refine Gx.val rfl rfl rfl (val_load rfl Try.ty3 rfl rfl (cell_rec (k := 0) rfl rfl)) ?_
  refine Gx.done ?_
  refine Gx.thenN ?_
  refine Gx.block ?_
  refine Gx.seq ?_
  refine Gx.region ?_
  refine Gx.val rfl rfl rfl (Val.cast (val_eql rfl rfl rfl) (v' := .bool false) rfl) ?_
  refine Gx.val rfl rfl rfl (val_assign rfl rfl) ?_
  refine Gx.done ?_
  refine Gx.thenN ?_
  refine Gx.f rfl ?_
  refine Gx.seq ?_
  refine Gx.region ?_
  refine Gx.val rfl rfl rfl (Val.cast (val_eql rfl rfl rfl) (v' := .bool true) rfl) ?_
  refine Gx.val rfl rfl rfl (val_assign rfl rfl) ?_
  refine Gx.done ?_
  refine Gx.thenN ?_
  refine Gx.t rfl ?_
  refine Gx.seq ?_
  refine Gx.regionO (fun j => false) 11 [0, 1, 2, 3, 4, 5, 6, 7, 8, 9, 10] (fun _ => [Hp.rec_ b1 [.int .i64 2, .int .i64 2, .int .i64 ((i : Nat) : Int), .int .i64 sr, .bool wr, .int .i64 val], Hp.rec_ S [cv, ov, nowV (mo.map Om.b) a0, nowV (mo.map Om.b) a1, ptr m.b 0, nowV (mo.map Om.b) a3], Hp.own Fsd 3 cv cs, Hp.own FP 1 ov (mo.map Om.b), Hp.big opH mo, R]) Try.mixed (by kernel_rfl) rfl ?_
  refine Gw.val rfl rfl rfl rfl rfl (fun us => val_move rfl rfl) ?_
  refine Gw.val rfl rfl rfl rfl rfl (fun us => val_move rfl rfl) ?_
  refine Gw.val rfl rfl rfl rfl rfl (fun us => Val.cast (val_fieldAddr rfl Try.underlying24 rfl Try.ty3 rfl rfl) (v' := ptr b1 1) rfl) ?_
  refine Gw.val0 rfl rfl rfl (by kernel_rfl) rfl rfl (val_load rfl Try.ty3 rfl rfl (cell_rec (k := 0) rfl rfl)) ?_
  refine Gw.val rfl rfl rfl rfl rfl (fun us => val_nilCheck rfl rfl) ?_
  refine Gw.val rfl rfl rfl rfl rfl (fun us => Val.cast (val_fieldAddr rfl Try.underlying47 rfl Try.ty45 rfl rfl) (v' := ptr S 2) rfl) ?_
  refine Gw.val rfl rfl rfl rfl rfl (fun us => Val.cast (val_ixaA rfl Try.underlying45 Try.ty44 rfl rfl (j := 2) (rfl) (by omega)) (v' := ptr S 4) rfl) ?_
  refine Gw.val0 rfl rfl rfl (by kernel_rfl) rfl rfl (val_load rfl Try.ty44 rfl rfl (cell_rec (k := 1) rfl rfl)) ?_
  refine Gw.val rfl rfl rfl rfl rfl (fun us => Val.cast (val_fieldAddr rfl Try.underlying24 rfl Try.ty3 rfl rfl) (v' := ptr b1 2) rfl) ?_
  refine Gw.val0 rfl rfl rfl (by kernel_rfl) rfl rfl (val_load rfl Try.ty3 rfl rfl (cell_rec (k := 0) rfl rfl)) ?_
  refine Gw.val rfl rfl rfl rfl rfl (fun us => val_move rfl rfl) ?_
  refine Gw.done ?_
  refine Gx.norm (l' := [Hp.rec_ b1 [.int .i64 2, .int .i64 2, .int .i64 ((i : Nat) : Int), .int .i64 sr, .bool wr, .int .i64 val], Hp.rec_ S [cv, ov, nowV (mo.map Om.b) a0, nowV (mo.map Om.b) a1, ptr m.b 0, nowV (mo.map Om.b) a3], Hp.own Fsd 3 cv cs, Hp.own FP 1 ov (mo.map Om.b), Hp.big opH mo, R]) rfl ?_
  refine Gx.drop 0 rfl ?_
  refine Gx.sepEq (l' := [regP S [a0, a1, some k, a3] cv ov cs mo, R]) (by have e9 := regP_shut (S := S) (cv := cv) (ov := ov) (cs := cs) (mo := mo) (R := R) (a0 := a0) (a1 := a1) (a2 := some k) (a3 := a3); rw [nowV_at hk] at e9; exact e9.trans (sep1 _ _).symm) ?_
  refine Gx.eff rfl rfl rfl (eff_call (vs := [ptr S 0, ptr m.b 0, .int .i64 ((i : Nat) : Int), .int .i64 ((mom : Nat) : Int)]) rfl Try.fn15 rfl (fun w H => reach_go2 hk hw hi hs h5 hmk hmany hbn hcn (H.at_ (k := 0) rfl))) ?_
  rintro _ l2 ⟨rfl, hl2⟩
  refine Gx.sepEq (l' := [regP S (if 2 * (m.o.many + 1) ≤ cs.length then [a0, a1, some k, a3] else if m.o.sec = true then [a0, a1, none, a3] else [a0, a1, some k, a3]) cv ov (if m.o.sec = true then storeR cs i m.o.best else cs) (mo.set k ⟨m.b, m.b2, if 2 * (m.o.many + 1) ≤ cs.length then seeR cs i m.o else turnO (seeR cs i m.o) mom⟩), R]) hl2 ?_
  refine Gx.val rfl rfl rfl (val_assign rfl rfl) ?_
  refine Gx.done ?_
  refine Gx.thenN ?_
  refine Gx.ret ?_
  refine Gx.blkR ?_
  refine Gx.thenR ?_
  refine Gx.ret1 Try.results11 rfl ?_
  exact ⟨rfl, sep1 _ _⟩

theorem step_begin_no3 {W w : World} {S mom : Nat} {a0 a1 a2 : Option Nat} {cv ov : Value} {cs : List Sd} {mo : List Om} {R : Hp} {k : Nat} {lo sr val : Int} {wr : Bool}  (H : Sat W w (regP S [a0, a1, a2, some k] cv ov cs mo * R)) :
    Calls Try.prog 11 #[ptr S 0, .agg #[.int .i64 1, .int .i64 3, .int .i64 lo, .int .i64 sr, .bool wr, .int .i64 val], .int .i64 ((mom : Nat) : Int)] w (Ret W fun v l => v = .int .i64 6 ∧ sep l = regP S [a0, a1, a2, some k] cv ov cs mo * R) := by
  refine Gx.enter (l := [regP S [a0, a1, a2, some k] cv ov cs mo, R]) Try.func11 rfl Try.ntmps11 rfl (H.frame1) ?_
  refine Gx.know (m' := [(0, ptr S 0), (1, .agg #[.int .i64 1, .int .i64 3, .int .i64 lo, .int .i64 sr, .bool wr, .int .i64 val]), (2, .int .i64 ((mom : Nat) : Int))]) (.cons rfl (.cons rfl (.cons rfl .nil))) ?_
  refine Gx.seq ?_
  refine Gx.region ?_
  refine Gx.eff rfl rfl rfl (eff_box rfl rfl (vs := [.int .i64 1, .int .i64 3, .int .i64 lo, .int .i64 sr, .bool wr, .int .i64 val]) rfl) ?_
  rintro _ _ ⟨b1, rfl, rfl⟩
  refine Gx.val rfl rfl rfl (val_assign rfl rfl) ?_
  refine Gx.done ?_
  refine Gx.thenN ?_
  refine Gx.seq ?_
  refine Gx.seq ?_
  refine Gx.region ?_
  refine Gx.val rfl rfl rfl (Val.cast (val_fieldAddr rfl Try.underlying24 rfl Try.ty3 rfl rfl) (v' := ptr b1 0) rfl) ?_
  refine Gx.val rfl rfl rfl (val_load rfl Try.ty3 rfl rfl (cell_rec (k := 0) rfl rfl)) ?_
  refine Gx.val rfl rfl rfl (Val.cast (val_lss rfl rfl rfl) (v' := .bool false) rfl) ?_
  refine Gx.val rfl rfl rfl (val_move rfl rfl) ?_
  refine Gx.valg rfl rfl rfl rfl rfl (Val.cast (val_fieldAddr rfl Try.underlying24 rfl Try.ty3 rfl rfl) (v' := ptr b1 0) rfl) ?_
  refine Gx.valg rfl rfl rfl rfl rfl (val_load rfl Try.ty3 rfl rfl (cell_rec (k := 0) rfl rfl)) ?_
  refine Gx.valg rfl rfl rfl rfl rfl (Val.cast (val_gtr rfl rfl rfl) (v' := .bool false) rfl) ?_
  refine Gx.val rfl rfl rfl (val_pickF rfl rfl rfl) ?_
  refine Gx.done ?_
  refine Gx.thenN ?_
  refine Gx.f rfl ?_
  refine Gx.skip ?_
  refine Gx.thenN ?_
  refine Gx.seq ?_
  refine Gx.seq ?_
  refine Gx.regionQ Try.mixed (by kernel_rfl) ?_
  refine Gq.val rfl rfl rfl (Val.cast (val_fieldAddr rfl Try.underlying24 rfl Try.ty3 rfl rfl) (v' := ptr b1 0) rfl) ?_
  refine Gq.val rfl rfl rfl (val_load rfl Try.ty3 rfl rfl (cell_rec (k := 0) rfl rfl)) ?_
  refine Gq.val rfl rfl rfl (Val.cast (val_neq rfl rfl rfl) (v' := .bool true) rfl) ?_
  refine Gq.val rfl rfl rfl (val_move rfl rfl) ?_
  refine Gq.valg rfl rfl rfl rfl rfl (Val.cast (val_fieldAddr rfl Try.underlying24 rfl Try.ty3 rfl rfl) (v' := ptr b1 1) rfl) ?_
  refine Gq.valg rfl rfl rfl rfl rfl (val_load rfl Try.ty3 rfl rfl (cell_rec (k := 0) rfl rfl)) ?_
  refine Gq.valg rfl rfl rfl rfl rfl (Val.cast (val_lss rfl rfl rfl) (v' := .bool false) rfl) ?_
  refine Gq.valg rfl rfl rfl rfl rfl (val_move rfl rfl) ?_
  refine Gq.valg rfl rfl rfl rfl rfl (Val.cast (val_fieldAddr rfl Try.underlying24 rfl Try.ty3 rfl rfl) (v' := ptr b1 1) rfl) ?_
  refine Gq.valg rfl rfl rfl rfl rfl (val_load rfl Try.ty3 rfl rfl (cell_rec (k := 0) rfl rfl)) ?_
  refine Gq.valg rfl rfl rfl rfl rfl (Val.cast (val_geq rfl rfl rfl) (v' := .bool false) rfl) ?_
  refine Gq.valg rfl rfl rfl rfl rfl (val_pickF rfl rfl rfl) ?_
  refine Gq.val rfl rfl rfl (val_pickT rfl rfl rfl) ?_
  refine Gq.val rfl rfl rfl (val_move rfl rfl) ?_
  refine Gq.valg rfl rfl rfl rfl rfl (Val.cast (val_fieldAddr rfl Try.underlying24 rfl Try.ty3 rfl rfl) (v' := ptr b1 0) rfl) ?_
  refine Gq.valg rfl rfl rfl rfl rfl (val_load rfl Try.ty3 rfl rfl (cell_rec (k := 0) rfl rfl)) ?_
  refine Gq.valg rfl rfl rfl rfl rfl (Val.cast (val_neq rfl rfl rfl) (v' := .bool false) rfl) ?_
  refine Gq.valg rfl rfl rfl rfl rfl (val_move rfl rfl) ?_
  refine Gq.skipg rfl rfl rfl rfl rfl rfl ?_
  refine Gq.skipg rfl rfl rfl rfl rfl rfl ?_
  refine Gq.skipg rfl rfl rfl rfl rfl rfl ?_
  refine Gq.skipg rfl rfl rfl rfl rfl rfl ?_
  refine Gq.skipu rfl rfl rfl rfl rfl ?_
  refine Gq.skipu rfl rfl rfl rfl rfl ?_
  refine Gq.skipu rfl rfl rfl rfl rfl ?_
  refine Gq.skipu rfl rfl rfl rfl rfl ?_
  refine Gq.skipu rfl rfl rfl rfl rfl ?_
  refine Gq.skipu rfl rfl rfl rfl rfl ?_
  refine Gq.skipu rfl rfl rfl rfl rfl ?_
  refine Gq.skipu rfl rfl rfl rfl rfl ?_
  refine Gq.skipg rfl rfl rfl rfl rfl rfl ?_
  refine Gq.valg rfl rfl rfl rfl rfl (val_pickF rfl rfl rfl) ?_
  refine Gq.val rfl rfl rfl (val_pickF rfl rfl rfl) ?_
  refine Gq.done ?_
  refine Gx.thenN ?_
  refine Gx.f rfl ?_
  refine Gx.skip ?_
  refine Gx.thenN ?_
  refine Gx.seq ?_
  refine Gx.seq ?_
  refine Gx.region ?_
  refine Gx.val rfl rfl rfl (Val.cast (val_fieldAddr rfl Try.underlying24 rfl Try.ty3 rfl rfl) (v' := ptr b1 0) rfl) ?_
  refine Gx.val rfl rfl rfl (val_load rfl Try.ty3 rfl rfl (cell_rec (k := 0) rfl rfl)) ?_
  refine Gx.done ?_
  refine Gx.thenN ?_
  refine Gx.block ?_
  refine Gx.seq ?_
  refine Gx.region ?_
  refine Gx.val rfl rfl rfl (Val.cast (val_eql rfl rfl rfl) (v' := .bool true) rfl) ?_
  refine Gx.val rfl rfl rfl (val_assign rfl rfl) ?_
  refine Gx.done ?_
  refine Gx.thenN ?_
  refine Gx.t rfl ?_
  refine Gx.seq ?_
  refine Gx.region ?_
  refine Gx.val rfl rfl rfl (val_move rfl rfl) ?_
  refine Gx.val rfl rfl rfl (Val.cast (val_loadA rfl Try.ty24 rfl rfl rfl (cells_rec (k := 0) rfl)) (v' := .agg #[.int .i64 1, .int .i64 3, .int .i64 lo, .int .i64 sr, .bool wr, .int .i64 val]) rfl) ?_
  refine Gx.val rfl rfl rfl (val_move rfl rfl) ?_
  refine Gx.eff rfl rfl rfl (eff_call (vs := [ptr S 0, .agg #[.int .i64 1, .int .i64 3, .int .i64 lo, .int .i64 sr, .bool wr, .int .i64 val], .int .i64 ((mom : Nat) : Int)]) rfl Try.fn14 rfl (fun w H => begin_no3 (H.at_ (k := 1) rfl))) ?_
  rintro _ l2 ⟨rfl, hl2⟩
  refine Gx.sepEq (l' := [regP S [a0, a1, a2, some k] cv ov cs mo, Hp.rec_ b1 [.int .i64 1, .int .i64 3, .int .i64 lo, .int .i64 sr, .bool wr, .int .i64 val], R]) hl2 ?_
  refine Gx.val rfl rfl rfl (val_assign rfl rfl) ?_
  refine Gx.done ?_
  refine Gx.thenN ?_
  refine Gx.ret ?_
  refine Gx.blkR ?_
  refine Gx.thenR ?_
  refine Gx.drop 1 rfl ?_
  refine Gx.ret1 Try.results11 rfl ?_
  exact ⟨rfl, sep1 _ _⟩

theorem step_begin3 {W w : World} {S mom : Nat} {a0 a1 a2 : Option Nat} {cv ov : Value} {cs : List Sd} {mo : List Om} {R : Hp}  {lo sr val : Int} {wr : Bool} (h0 : ∀ k, a0 = some k → k < mo.length) (h1 : ∀ k, a1 = some k → k < mo.length) (h2 : ∀ k, a2 = some k → k < mo.length) (hml : mo.length ≤ 1000) (H : Sat W w (regP S [a0, a1, a2, none] cv ov cs mo * R)) :
    Calls Try.prog 11 #[ptr S 0, .agg #[.int .i64 1, .int .i64 3, .int .i64 lo, .int .i64 sr, .bool wr, .int .i64 val], .int .i64 ((mom : Nat) : Int)] w (Ret W fun v l => ∃ (b b2 : Nat) (ov' : Value), v = .int .i64 0 ∧ sep l = regP S [a0, a1, a2, some mo.length] cv ov' cs (mo ++ [(⟨b, b2, newO 3 wr val mom⟩ : Om)]) * R) := by
  refine Gx.enter (l := [regP S [a0, a1, a2, none] cv ov cs mo, R]) Try.func11 rfl Try.ntmps11 rfl (H.frame1) ?_
  refine Gx.know (m' := [(0, ptr S 0), (1, .agg #[.int .i64 1, .int .i64 3, .int .i64 lo, .int .i64 sr, .bool wr, .int .i64 val]), (2, .int .i64 ((mom : Nat) : Int))]) (.cons rfl (.cons rfl (.cons rfl .nil))) ?_
  refine Gx.seq ?_
  refine Gx.region ?_
  refine Gx.eff rfl rfl rfl (eff_box rfl rfl (vs := [.int .i64 1, .int .i64 3, .int .i64 lo, .int .i64 sr, .bool wr, .int .i64 val]) rfl) ?_
  rintro _ _ ⟨b1, rfl, rfl⟩
  refine Gx.val rfl rfl rfl (val_assign rfl rfl) ?_
  refine Gx.done ?_
  refine Gx.thenN ?_
  refine Gx.seq ?_
  refine Gx.seq ?_
  refine Gx.region ?_
  refine Gx.val rfl rfl rfl (Val.cast (val_fieldAddr rfl Try.underlying24 rfl Try.ty3 rfl rfl) (v' := ptr b1 0) rfl) ?_
  refine Gx.val rfl rfl rfl (val_load rfl Try.ty3 rfl rfl (cell_rec (k := 0) rfl rfl)) ?_
  refine Gx.val rfl rfl rfl (Val.cast (val_lss rfl rfl rfl) (v' := .bool false) rfl) ?_
  refine Gx.val rfl rfl rfl (val_move rfl rfl) ?_
  refine Gx.valg rfl rfl rfl rfl rfl (Val.cast (val_fieldAddr rfl Try.underlying24 rfl Try.ty3 rfl rfl) (v' := ptr b1 0) rfl) ?_
  refine Gx.valg rfl rfl rfl rfl rfl (val_load rfl Try.ty3 rfl rfl (cell_rec (k := 0) rfl rfl)) ?_
  refine Gx.valg rfl rfl rfl rfl rfl (Val.cast (val_gtr rfl rfl rfl) (v' := .bool false) rfl) ?_
  refine Gx.val rfl rfl rfl (val_pickF rfl rfl rfl) ?_
  refine Gx.done ?_
  refine Gx.thenN ?_
  refine Gx.f rfl ?_
  refine Gx.skip ?_
  refine Gx.thenN ?_
  refine Gx.seq ?_
  refine Gx.seq ?_
  refine Gx.regionQ Try.mixed (by kernel_rfl) ?_
  refine Gq.val rfl rfl rfl (Val.cast (val_fieldAddr rfl Try.underlying24 rfl Try.ty3 rfl rfl) (v' := ptr b1 0) rfl) ?_
  refine Gq.val rfl rfl rfl (val_load rfl Try.ty3 rfl rfl (cell_rec (k := 0) rfl rfl)) ?_
  refine Gq.val rfl rfl rfl (Val.cast (val_neq rfl rfl rfl) (v' := .bool true) rfl) ?_
  refine Gq.val rfl rfl rfl (val_move rfl rfl) ?_
  refine Gq.valg rfl rfl rfl rfl rfl (Val.cast (val_fieldAddr rfl Try.underlying24 rfl Try.ty3 rfl rfl) (v' := ptr b1 1) rfl) ?_
  refine Gq.valg rfl rfl rfl rfl rfl (val_load rfl Try.ty3 rfl rfl (cell_rec (k := 0) rfl rfl)) ?_
  refine Gq.valg rfl rfl rfl rfl rfl (Val.cast (val_lss rfl rfl rfl) (v' := .bool false) rfl) ?_
  refine Gq.valg rfl rfl rfl rfl rfl (val_move rfl rfl) ?_
  refine Gq.valg rfl rfl rfl rfl rfl (Val.cast (val_fieldAddr rfl Try.underlying24 rfl Try.ty3 rfl rfl) (v' := ptr b1 1) rfl) ?_
  refine Gq.valg rfl rfl rfl rfl rfl (val_load rfl Try.ty3 rfl rfl (cell_rec (k := 0) rfl rfl)) ?_
  refine Gq.valg rfl rfl rfl rfl rfl (Val.cast (val_geq rfl rfl rfl) (v' := .bool false) rfl) ?_
  refine Gq.valg rfl rfl rfl rfl rfl (val_pickF rfl rfl rfl) ?_
  refine Gq.val rfl rfl rfl (val_pickT rfl rfl rfl) ?_
  refine Gq.val rfl rfl rfl (val_move rfl rfl) ?_
  refine Gq.valg rfl rfl rfl rfl rfl (Val.cast (val_fieldAddr rfl Try.underlying24 rfl Try.ty3 rfl rfl) (v' := ptr b1 0) rfl) ?_
  refine Gq.valg rfl rfl rfl rfl rfl (val_load rfl Try.ty3 rfl rfl (cell_rec (k := 0) rfl rfl)) ?_
  refine Gq.valg rfl rfl rfl rfl rfl (Val.cast (val_neq rfl rfl rfl) (v' := .bool false) rfl) ?_
  refine Gq.valg rfl rfl rfl rfl rfl (val_move rfl rfl) ?_
  refine Gq.skipg rfl rfl rfl rfl rfl rfl ?_
  refine Gq.skipg rfl rfl rfl rfl rfl rfl ?_
  refine Gq.skipg rfl rfl rfl rfl rfl rfl ?_
  refine Gq.skipg rfl rfl rfl rfl rfl rfl ?_
  refine Gq.skipu rfl rfl rfl rfl rfl ?_
  refine Gq.skipu rfl rfl rfl rfl rfl ?_
  refine Gq.skipu rfl rfl rfl rfl rfl ?_
  refine Gq.skipu rfl rfl rfl rfl rfl ?_
  refine Gq.skipu rfl rfl rfl rfl rfl ?_
  refine Gq.skipu rfl rfl rfl rfl rfl ?_
  refine Gq.skipu rfl rfl rfl rfl rfl ?_
  refine Gq.skipu rfl rfl rfl rfl rfl ?_
  refine Gq.skipg rfl rfl rfl rfl rfl rfl ?_
  refine Gq.valg rfl rfl rfl rfl rfl (val_pickF rfl rfl rfl) ?_
  refine Gq.val rfl rfl rfl (val_pickF rfl rfl rfl) ?_
  refine Gq.done ?_
  refine Gx.thenN ?_
  refine Gx.f rfl ?_
  refine Gx.skip ?_
  refine Gx.thenN ?_
  refine Gx.seq ?_
  refine Gx.seq ?_
  refine Gx.region ?_
  refine Gx.val rfl rfl rfl (Val.cast (val_fieldAddr rfl Try.underlying24 rfl Try.ty3 rfl rfl) (v' := ptr b1 0) rfl) ?_
  refine Gx.val rfl rfl rfl (val_load rfl Try.ty3 rfl rfl (cell_rec (k := 0) rfl rfl)) ?_
  refine Gx.done ?_
  refine Gx.thenN ?_
  refine Gx.block ?_
  refine Gx.seq ?_
  refine Gx.region ?_
  refine Gx.val rfl rfl rfl (Val.cast (val_eql rfl rfl rfl) (v' := .bool true) rfl) ?_
  refine Gx.val rfl rfl rfl (val_assign rfl rfl) ?_
  refine Gx.done ?_
  refine Gx.thenN ?_
  refine Gx.t rfl ?_
  refine Gx.seq ?_
  refine Gx.region ?_
  refine Gx.val rfl rfl rfl (val_move rfl rfl) ?_
  refine Gx.val rfl rfl rfl (Val.cast (val_loadA rfl Try.ty24 rfl rfl rfl (cells_rec (k := 0) rfl)) (v' := .agg #[.int .i64 1, .int .i64 3, .int .i64 lo, .int .i64 sr, .bool wr, .int .i64 val]) rfl) ?_
  refine Gx.val rfl rfl rfl (val_move rfl rfl) ?_
  refine Gx.eff rfl rfl rfl (eff_call (vs := [ptr S 0, .agg #[.int .i64 1, .int .i64 3, .int .i64 lo, .int .i64 sr, .bool wr, .int .i64 val], .int .i64 ((mom : Nat) : Int)]) rfl Try.fn14 rfl (fun w H => begin_yes3 h0 h1 h2 hml (H.at_ (k := 1) rfl))) ?_
  rintro _ l9 ⟨b, b2, ov', rfl, hio, hl9⟩
  refine Gx.sepEq (l' := [regP S [a0, a1, a2, some mo.length] cv ov' cs (mo ++ [(⟨b, b2, newO 3 wr val mom⟩ : Om)]), Hp.rec_ b1 [.int .i64 1, .int .i64 3, .int .i64 lo, .int .i64 sr, .bool wr, .int .i64 val], R]) hl9 ?_
  refine Gx.val rfl rfl rfl (val_assign rfl rfl) ?_
  refine Gx.done ?_
  refine Gx.thenN ?_
  refine Gx.ret ?_
  refine Gx.blkR ?_
  refine Gx.thenR ?_
  refine Gx.drop 1 rfl ?_
  refine Gx.ret1 Try.results11 rfl ?_
  exact ⟨b, b2, ov', rfl, sep1 _ _⟩

theorem step_reach_nil3 {W w : World} {i : Nat} {S mom : Nat} {a0 a1 a2 : Option Nat} {cv ov : Value} {cs : List Sd} {mo : List Om} {R : Hp} {sr val : Int} {wr : Bool}  (hi : i < cs.length) (h5 : cs.length ≤ 5) (H : Sat W w (regP S [a0, a1, a2, none] cv ov cs mo * R)) :
    Calls Try.prog 11 #[ptr S 0, .agg #[.int .i64 2, .int .i64 3, .int .i64 ((i : Nat) : Int), .int .i64 sr, .bool wr, .int .i64 val], .int .i64 ((mom : Nat) : Int)] w (Ret W fun v l => v = .int .i64 6 ∧ sep l = regP S [a0, a1, a2, none] cv ov cs mo * R) := by
  refine Gx.enter (l := [Hp.rec_ S [cv, ov, nowV (mo.map Om.b) a0, nowV (mo.map Om.b) a1, nowV (mo.map Om.b) a2, .pointer none], Hp.own Fsd 3 cv cs, Hp.own FP 1 ov (mo.map Om.b), Hp.big opH mo, R]) Try.func11 rfl Try.ntmps11 rfl ((regP_open H)) ?_
  refine Gx.know (m' := [(0, ptr S 0), (1, .agg #[.int .i64 2, .int .i64 3, .int .i64 ((i : Nat) : Int), .int .i64 sr, .bool wr, .int .i64 val]), (2, .int .i64 ((mom : Nat) : Int))]) (.cons rfl (.cons rfl (.cons rfl .nil))) ?_
  refine Gx.seq ?_
  refine Gx.region ?_
  refine Gx.eff rfl rfl rfl (eff_box rfl rfl (vs := [.int .i64 2, .int .i64 3, .int .i64 ((i : Nat) : Int), .int .i64 sr, .bool wr, .int .i64 val]) rfl) ?_
  rintro _ _ ⟨b1, rfl, rfl⟩
  refine Gx.val rfl rfl rfl (val_assign rfl rfl) ?_
  refine Gx.done ?_
  refine Gx.thenN ?_
  refine Gx.seq ?_
  refine Gx.seq ?_
  refine Gx.region ?_
  refine Gx.val rfl rfl rfl (Val.cast (val_fieldAddr rfl Try.underlying24 rfl Try.ty3 rfl rfl) (v' := ptr b1 0) rfl) ?_
  refine Gx.val rfl rfl rfl (val_load rfl Try.ty3 rfl rfl (cell_rec (k := 0) rfl rfl)) ?_
  refine Gx.val rfl rfl rfl (Val.cast (val_lss rfl rfl rfl) (v' := .bool false) rfl) ?_
  refine Gx.val rfl rfl rfl (val_move rfl rfl) ?_
  refine Gx.valg rfl rfl rfl rfl rfl (Val.cast (val_fieldAddr rfl Try.underlying24 rfl Try.ty3 rfl rfl) (v' := ptr b1 0) rfl) ?_
  refine Gx.valg rfl rfl rfl rfl rfl (val_load rfl Try.ty3 rfl rfl (cell_rec (k := 0) rfl rfl)) ?_
  refine Gx.valg rfl rfl rfl rfl rfl (Val.cast (val_gtr rfl rfl rfl) (v' := .bool false) rfl) ?_
  refine Gx.val rfl rfl rfl (val_pickF rfl rfl rfl) ?_
  refine Gx.done ?_
  refine Gx.thenN ?_
  refine Gx.f rfl ?_
  refine Gx.skip ?_
  refine Gx.thenN ?_
  refine Gx.seq ?_
  refine Gx.seq ?_
  refine Gx.regionQ Try.mixed (by kernel_rfl) ?_
  refine Gq.val rfl rfl rfl (Val.cast (val_fieldAddr rfl Try.underlying24 rfl Try.ty3 rfl rfl) (v' := ptr b1 0) rfl) ?_
  refine Gq.val rfl rfl rfl (val_load rfl Try.ty3 rfl rfl (cell_rec (k := 0) rfl rfl)) ?_
  refine Gq.val rfl rfl rfl (Val.cast (val_neq rfl rfl rfl) (v' := .bool true) rfl) ?_
  refine Gq.val rfl rfl rfl (val_move rfl rfl) ?_
  refine Gq.valg rfl rfl rfl rfl rfl (Val.cast (val_fieldAddr rfl Try.underlying24 rfl Try.ty3 rfl rfl) (v' := ptr b1 1) rfl) ?_
  refine Gq.valg rfl rfl rfl rfl rfl (val_load rfl Try.ty3 rfl rfl (cell_rec (k := 0) rfl rfl)) ?_
  refine Gq.valg rfl rfl rfl rfl rfl (Val.cast (val_lss rfl rfl rfl) (v' := .bool false) rfl) ?_
  refine Gq.valg rfl rfl rfl rfl rfl (val_move rfl rfl) ?_
  refine Gq.valg rfl rfl rfl rfl rfl (Val.cast (val_fieldAddr rfl Try.underlying24 rfl Try.ty3 rfl rfl) (v' := ptr b1 1) rfl) ?_
  refine Gq.valg rfl rfl rfl rfl rfl (val_load rfl Try.ty3 rfl rfl (cell_rec (k := 0) rfl rfl)) ?_
  refine Gq.valg rfl rfl rfl rfl rfl (Val.cast (val_geq rfl rfl rfl) (v' := .bool false) rfl) ?_
  refine Gq.valg rfl rfl rfl rfl rfl (val_pickF rfl rfl rfl) ?_
  refine Gq.val rfl rfl rfl (val_pickT rfl rfl rfl) ?_
  refine Gq.val rfl rfl rfl (val_move rfl rfl) ?_
  refine Gq.valg rfl rfl rfl rfl rfl (Val.cast (val_fieldAddr rfl Try.underlying24 rfl Try.ty3 rfl rfl) (v' := ptr b1 0) rfl) ?_
  refine Gq.valg rfl rfl rfl rfl rfl (val_load rfl Try.ty3 rfl rfl (cell_rec (k := 0) rfl rfl)) ?_
  refine Gq.valg rfl rfl rfl rfl rfl (Val.cast (val_neq rfl rfl rfl) (v' := .bool true) rfl) ?_
  refine Gq.valg rfl rfl rfl rfl rfl (val_move rfl rfl) ?_
  refine Gq.valg rfl rfl rfl rfl rfl (Val.cast (val_fieldAddr rfl Try.underlying24 rfl Try.ty3 rfl rfl) (v' := ptr b1 2) rfl) ?_
  refine Gq.valg rfl rfl rfl rfl rfl (val_load rfl Try.ty3 rfl rfl (cell_rec (k := 0) rfl rfl)) ?_
  refine Gq.valg rfl rfl rfl rfl rfl (val_lss rfl rfl rfl) ?_
  refine Gq.valg rfl rfl rfl rfl rfl (val_move rfl rfl) ?_
  refine Gq.slot (t := 36) (v := .bool false) (look_decF rfl (by omega)) ?_
  refine Gq.valg rfl rfl rfl rfl rfl (Val.cast (val_fieldAddr rfl Try.underlying24 rfl Try.ty3 rfl rfl) (v' := ptr b1 2) rfl) ?_
  refine Gq.valg rfl rfl rfl rfl rfl (val_load rfl Try.ty3 rfl rfl (cell_rec (k := 0) rfl rfl)) ?_
  refine Gq.valg rfl rfl rfl rfl rfl (val_move rfl rfl) ?_
  refine Gq.valg rfl rfl rfl rfl rfl (val_nilCheck rfl rfl) ?_
  refine Gq.valg rfl rfl rfl rfl rfl (Val.cast (val_fieldAddr rfl Try.underlying47 rfl Try.ty42 rfl rfl) (v' := ptr S 0) rfl) ?_
  refine Gq.valg rfl rfl rfl rfl rfl (val_load rfl Try.ty42 rfl rfl (cell_rec (k := 1) rfl rfl)) ?_
  refine Gq.valg rfl rfl rfl rfl rfl (val_len rfl Try.underlying42 rfl (len_own (k := 2) rfl)) ?_
  refine Gq.valg rfl rfl rfl rfl rfl (val_geq rfl rfl rfl) ?_
  refine Gq.valg rfl rfl rfl rfl rfl (val_pickF rfl rfl rfl) ?_
  refine Gq.valg rfl rfl rfl rfl rfl (val_pickT rfl rfl rfl) ?_
  refine Gq.val rfl rfl rfl (val_pickF rfl rfl rfl) ?_
  refine Gq.done ?_
  refine Gx.thenN ?_
  refine Gx.decF rfl (by omega) ?_
  refine Gx.skip ?_
  refine Gx.thenN ?_
  refine Gx.seq ?_
  refine Gx.seq ?_
  refine Gx.region ?_
  refine Gx.val rfl rfl rfl (Val.cast (val_fieldAddr rfl Try.underlying24 rfl Try.ty3 rfl rfl) (v' := ptr b1 0) rfl) ?_
  refine Gx.val rfl rfl rfl (val_load rfl Try.ty3 rfl rfl (cell_rec (k := 0) rfl rfl)) ?_
  refine Gx.done ?_
  refine Gx.thenN ?_
  refine Gx.block ?_
  refine Gx.seq ?_
  refine Gx.region ?_
  refine Gx.val rfl rfl rfl (Val.cast (val_eql rfl rfl rfl) (v' := .bool false) rfl) ?_
  refine Gx.val rfl rfl rfl (val_assign rfl rfl) ?_
  refine Gx.done ?_
  refine Gx.thenN ?_
  refine Gx.f rfl ?_
  refine Gx.seq ?_
  refine Gx.region ?_
  refine Gx.val rfl rfl rfl (Val.cast (val_eql rfl rfl rfl) (v' := .bool true) rfl) ?_
  refine Gx.val rfl rfl rfl (val_assign rfl rfl) ?_
  refine Gx.done ?_
  refine Gx.thenN ?_
  refine Gx.t rfl ?_
  refine Gx.seq ?_
  refine Gx.regionO (fun j => false) 11 [0, 1, 2, 3, 4, 5, 6, 7, 8, 9, 10] (fun _ => [Hp.rec_ b1 [.int .i64 2, .int .i64 3, .int .i64 ((i : Nat) : Int), .int .i64 sr, .bool wr, .int .i64 val], Hp.rec_ S [cv, ov, nowV (mo.map Om.b) a0, nowV (mo.map Om.b) a1, nowV (mo.map Om.b) a2, .pointer none], Hp.own Fsd 3 cv cs, Hp.own FP 1 ov (mo.map Om.b), Hp.big opH mo, R]) Try.mixed (by kernel_rfl) rfl ?_
  refine Gw.val rfl rfl rfl rfl rfl (fun us => val_move rfl rfl) ?_
  refine Gw.val rfl rfl rfl rfl rfl (fun us => val_move rfl rfl) ?_
  refine Gw.val rfl rfl rfl rfl rfl (fun us => Val.cast (val_fieldAddr rfl Try.underlying24 rfl Try.ty3 rfl rfl) (v' := ptr b1 1) rfl) ?_
  refine Gw.val0 rfl rfl rfl (by kernel_rfl) rfl rfl (val_load rfl Try.ty3 rfl rfl (cell_rec (k := 0) rfl rfl)) ?_
  refine Gw.val rfl rfl rfl rfl rfl (fun us => val_nilCheck rfl rfl) ?_
  refine Gw.val rfl rfl rfl rfl rfl (fun us => Val.cast (val_fieldAddr rfl Try.underlying47 rfl Try.ty45 rfl rfl) (v' := ptr S 2) rfl) ?_
  refine Gw.val rfl rfl rfl rfl rfl (fun us => Val.cast (val_ixaA rfl Try.underlying45 Try.ty44 rfl rfl (j := 3) (rfl) (by omega)) (v' := ptr S 5) rfl) ?_
  refine Gw.val0 rfl rfl rfl (by kernel_rfl) rfl rfl (val_load rfl Try.ty44 rfl rfl (cell_rec (k := 1) rfl rfl)) ?_
  refine Gw.val rfl rfl rfl rfl rfl (fun us => Val.cast (val_fieldAddr rfl Try.underlying24 rfl Try.ty3 rfl rfl) (v' := ptr b1 2) rfl) ?_
  refine Gw.val0 rfl rfl rfl (by kernel_rfl) rfl rfl (val_load rfl Try.ty3 rfl rfl (cell_rec (k := 0) rfl rfl)) ?_
  refine Gw.val rfl rfl rfl rfl rfl (fun us => val_move rfl rfl) ?_
  refine Gw.done ?_
  refine Gx.norm (l' := [Hp.rec_ b1 [.int .i64 2, .int .i64 3, .int .i64 ((i : Nat) : Int), .int .i64 sr, .bool wr, .int .i64 val], Hp.rec_ S [cv, ov, nowV (mo.map Om.b) a0, nowV (mo.map Om.b) a1, nowV (mo.map Om.b) a2, .pointer none], Hp.own Fsd 3 cv cs, Hp.own FP 1 ov (mo.map Om.b), Hp.big opH mo, R]) rfl ?_
  refine Gx.drop 0 rfl ?_
  refine Gx.sepEq (l' := [regP S [a0, a1, a2, none] cv ov cs mo, R]) ((regP_shut (a0 := a0) (a1 := a1) (a2 := a2) (a3 := none)).trans (sep1 _ _).symm) ?_
  refine Gx.eff rfl rfl rfl (eff_call (vs := [ptr S 0, .pointer none, .int .i64 ((i : Nat) : Int), .int .i64 ((mom : Nat) : Int)]) rfl Try.fn15 rfl (fun w H => reach_nil H)) ?_
  rintro _ l2 ⟨rfl, hl2⟩
  refine Gx.sepEq (l' := [regP S [a0, a1, a2, none] cv ov cs mo, R]) hl2 ?_
  refine Gx.val rfl rfl rfl (val_assign rfl rfl) ?_
  refine Gx.done ?_
  refine Gx.thenN ?_
  refine Gx.ret ?_
  refine Gx.blkR ?_
  refine Gx.thenR ?_
  refine Gx.ret1 Try.results11 rfl ?_
  exact ⟨rfl, sep1 _ _⟩

theorem step_reach_seen3 {W w : World} {i : Nat} {S mom : Nat} {a0 a1 a2 : Option Nat} {cv ov : Value} {cs : List Sd} {mo : List Om} {R : Hp} {sr val : Int} {wr : Bool} {k : Nat} {m : Om} (hk : mo[k]? = some m) (hs : i ∈ m.o.seen) (hmk : mk m.o.seen < 4294967296) (hi : i < cs.length) (h5 : cs.length ≤ 5) (H : Sat W w (regP S [a0, a1, a2, some k] cv ov cs mo * R)) :
    Calls Try.prog 11 #[ptr S 0, .agg #[.int .i64 2, .int .i64 3, .int .i64 ((i : Nat) : Int), .int .i64 sr, .bool wr, .int .i64 val], .int .i64 ((mom : Nat) : Int)] w (Ret W fun v l => v = .int .i64 6 ∧ sep l = regP S [a0, a1, a2, some k] cv ov cs mo * R) := by
  refine Gx.enter (l := [Hp.rec_ S [cv, ov, nowV (mo.map Om.b) a0, nowV (mo.map Om.b) a1, nowV (mo.map Om.b) a2, ptr m.b 0], Hp.own Fsd 3 cv cs, Hp.own FP 1 ov (mo.map Om.b), Hp.big opH mo, R]) Try.func11 rfl Try.ntmps11 rfl ((by have e9 := regP_open H; rw [nowV_at hk] at e9; exact e9)) ?_
  refine Gx.know (m' := [(0, ptr S 0), (1, .agg #[.int .i64 2, .int .i64 3, .int .i64 ((i : Nat) : Int), .int .i64 sr, .bool wr, .int .i64 val]), (2, .int .i64 ((mom : Nat) : Int))]) (.cons rfl (.cons rfl (.cons rfl .nil))) ?_
  refine Gx.seq ?_
  refine Gx.region ?_
  refine Gx.eff rfl rfl rfl (eff_box rfl rfl (vs := [.int .i64 2, .int .i64 3, .int .i64 ((i : Nat) : Int), .int .i64 sr, .bool wr, .int .i64 val]) rfl) ?_
  rintro _ _ ⟨b1, rfl, rfl⟩
  refine Gx.val rfl rfl rfl (val_assign rfl rfl) ?_
  refine Gx.done ?_
  refine Gx.thenN ?_
  refine Gx.seq ?_
  refine Gx.seq ?_
  refine Gx.region ?_
  refine Gx.val rfl rfl rfl (Val.cast (val_fieldAddr rfl Try.underlying24 rfl Try.ty3 rfl rfl) (v' := ptr b1 0) rfl) ?_
  refine Gx.val rfl rfl rfl (val_load rfl Try.ty3 rfl rfl (cell_rec (k := 0) rfl rfl)) ?_
  refine Gx.val rfl rfl rfl (Val.cast (val_lss rfl rfl rfl) (v' := .bool false) rfl) ?_
  refine Gx.val rfl rfl rfl (val_move rfl rfl) ?_
  refine Gx.valg rfl rfl rfl rfl rfl (Val.cast (val_fieldAddr rfl Try.underlying24 rfl Try.ty3 rfl rfl) (v' := ptr b1 0) rfl) ?_
  refine Gx.valg rfl rfl rfl rfl rfl (val_load rfl Try.ty3 rfl rfl (cell_rec (k := 0) rfl rfl)) ?_
  refine Gx.valg rfl rfl rfl rfl rfl (Val.cast (val_gtr rfl rfl rfl) (v' := .bool false) rfl) ?_
  refine Gx.val rfl rfl rfl (val_pickF rfl rfl rfl) ?_
  refine Gx.done ?_
  refine Gx.thenN ?_
  refine Gx.f rfl ?_
  refine Gx.skip ?_
  refine Gx.thenN ?_
  refine Gx.seq ?_
  refine Gx.seq ?_
  refine Gx.regionQ Try.mixed (by kernel_rfl) ?_
  refine Gq.val rfl rfl rfl (Val.cast (val_fieldAddr rfl Try.underlying24 rfl Try.ty3 rfl rfl) (v' := ptr b1 0) rfl) ?_
  refine Gq.val rfl rfl rfl (val_load rfl Try.ty3 rfl rfl (cell_rec (k := 0) rfl rfl)) ?_
  refine Gq.val rfl rfl rfl (Val.cast (val_neq rfl rfl rfl) (v' := .bool true) rfl) ?_
  refine Gq.val rfl rfl rfl (val_move rfl rfl) ?_
  refine Gq.valg rfl rfl rfl rfl rfl (Val.cast (val_fieldAddr rfl Try.underlying24 rfl Try.ty3 rfl rfl) (v' := ptr b1 1) rfl) ?_
  refine Gq.valg rfl rfl rfl rfl rfl (val_load rfl Try.ty3 rfl rfl (cell_rec (k := 0) rfl rfl)) ?_
  refine Gq.valg rfl rfl rfl rfl rfl (Val.cast (val_lss rfl rfl rfl) (v' := .bool false) rfl) ?_
  refine Gq.valg rfl rfl rfl rfl rfl (val_move rfl rfl) ?_
  refine Gq.valg rfl rfl rfl rfl rfl (Val.cast (val_fieldAddr rfl Try.underlying24 rfl Try.ty3 rfl rfl) (v' := ptr b1 1) rfl) ?_
  refine Gq.valg rfl rfl rfl rfl rfl (val_load rfl Try.ty3 rfl rfl (cell_rec (k := 0) rfl rfl)) ?_
  refine Gq.valg rfl rfl rfl rfl rfl (Val.cast (val_geq rfl rfl rfl) (v' := .bool false) rfl) ?_
  refine Gq.valg rfl rfl rfl rfl rfl (val_pickF rfl rfl rfl) ?_
  refine Gq.val rfl rfl rfl (val_pickT rfl rfl rfl) ?_
  refine Gq.val rfl rfl rfl (val_move rfl rfl) ?_
  refine Gq.valg rfl rfl rfl rfl rfl (Val.cast (val_fieldAddr rfl Try.underlying24 rfl Try.ty3 rfl rfl) (v' := ptr b1 0) rfl) ?_
  refine Gq.valg rfl rfl rfl rfl rfl (val_load rfl Try.ty3 rfl rfl (cell_rec (k := 0) rfl rfl)) ?_
  refine Gq.valg rfl rfl rfl rfl rfl (Val.cast (val_neq rfl rfl rfl) (v' := .bool true) rfl) ?_
  refine Gq.valg rfl rfl rfl rfl rfl (val_move rfl rfl) ?_
  refine Gq.valg rfl rfl rfl rfl rfl (Val.cast (val_fieldAddr rfl Try.underlying24 rfl Try.ty3 rfl rfl) (v' := ptr b1 2) rfl) ?_
  refine Gq.valg rfl rfl rfl rfl rfl (val_load rfl Try.ty3 rfl rfl (cell_rec (k := 0) rfl rfl)) ?_
  refine Gq.valg rfl rfl rfl rfl rfl (val_lss rfl rfl rfl) ?_
  refine Gq.valg rfl rfl rfl rfl rfl (val_move rfl rfl) ?_
  refine Gq.slot (t := 36) (v := .bool false) (look_decF rfl (by omega)) ?_
  refine Gq.valg rfl rfl rfl rfl rfl (Val.cast (val_fieldAddr rfl Try.underlying24 rfl Try.ty3 rfl rfl) (v' := ptr b1 2) rfl) ?_
  refine Gq.valg rfl rfl rfl rfl rfl (val_load rfl Try.ty3 rfl rfl (cell_rec (k := 0) rfl rfl)) ?_
  refine Gq.valg rfl rfl rfl rfl rfl (val_move rfl rfl) ?_
  refine Gq.valg rfl rfl rfl rfl rfl (val_nilCheck rfl rfl) ?_
  refine Gq.valg rfl rfl rfl rfl rfl (Val.cast (val_fieldAddr rfl Try.underlying47 rfl Try.ty42 rfl rfl) (v' := ptr S 0) rfl) ?_
  refine Gq.valg rfl rfl rfl rfl rfl (val_load rfl Try.ty42 rfl rfl (cell_rec (k := 1) rfl rfl)) ?_
  refine Gq.valg rfl rfl rfl rfl rfl (val_len rfl Try.underlying42 rfl (len_own (k := 2) rfl)) ?_
  refine Gq.valg rfl rfl rfl rfl rfl (val_geq rfl rfl rfl) ?_
  refine Gq.valg rfl rfl rfl rfl rfl (val_pickF rfl rfl rfl) ?_
  refine Gq.valg rfl rfl rfl rfl rfl (val_pickT rfl rfl rfl) ?_
  refine Gq.val rfl rfl rfl (val_pickF rfl rfl rfl) ?_
  refine Gq.done ?_
  refine Gx.thenN ?_
  refine Gx.decF rfl (by omega) ?_
  refine Gx.skip ?_
  refine Gx.thenN ?_
  refine Gx.seq ?_
  refine Gx.seq ?_
  refine Gx.region ?_
  refine Gx.val rfl rfl rfl (Val.cast (val_fieldAddr rfl Try.underlying24 rfl Try.ty3 rfl rfl) (v' := ptr b1 0) rfl) ?_
  refine Gx.val rfl rfl rfl (val_load rfl Try.ty3 rfl rfl (cell_rec (k := 0) rfl rfl)) ?_
  refine Gx.done ?_
  refine Gx.thenN ?_
  refine Gx.block ?_
  refine Gx.seq ?_
  refine Gx.region ?_
  refine Gx.val rfl rfl rfl (Val.cast (val_eql rfl rfl rfl) (v' := .bool false) rfl) ?_
  refine Gx.val rfl rfl rfl (val_assign rfl rfl) ?_
  refine Gx.done ?_
  refine Gx.thenN ?_
  refine Gx.f rfl ?_
  refine Gx.seq ?_
  refine Gx.region ?_
  refine Gx.val rfl rfl rfl (Val.cast (val_eql rfl rfl rfl) (v' := .bool true) rfl) ?_
  refine Gx.val rfl rfl rfl (val_assign rfl rfl) ?_
  refine Gx.done ?_
  refine Gx.thenN ?_
  refine Gx.t rfl ?_
  refine Gx.seq ?_
  refine Gx.regionO (fun j => false) 11 [0, 1, 2, 3, 4, 5, 6, 7, 8, 9, 10] (fun _ => [Hp.rec_ b1 [.int .i64 2, .int .i64 3, .int .i64 ((i : Nat) : Int), .int .i64 sr, .bool wr, .int .i64 val], Hp.rec_ S [cv, ov, nowV (mo.map Om.b) a0, nowV (mo.map Om.b) a1, nowV (mo.map Om.b) a2, ptr m.b 0], Hp.own Fsd 3 cv cs, Hp.own FP 1 ov (mo.map Om.b), Hp.big opH mo, R]) Try.mixed (by kernel_rfl) rfl ?_
  refine Gw.val rfl rfl rfl rfl rfl (fun us => val_move rfl rfl) ?_
  refine Gw.val rfl rfl rfl rfl rfl (fun us => val_move rfl rfl) ?_
  refine Gw.val rfl rfl rfl rfl rfl (fun us => Val.cast (val_fieldAddr rfl Try.underlying24 rfl Try.ty3 rfl rfl) (v' := ptr b1 1) rfl) ?_
  refine Gw.val0 rfl rfl rfl (by kernel_rfl) rfl rfl (val_load rfl Try.ty3 rfl rfl (cell_rec (k := 0) rfl rfl)) ?_
  refine Gw.val rfl rfl rfl rfl rfl (fun us => val_nilCheck rfl rfl) ?_
  refine Gw.val rfl rfl rfl rfl rfl (fun us => Val.cast (val_fieldAddr rfl Try.underlying47 rfl Try.ty45 rfl rfl) (v' := ptr S 2) rfl) ?_
  refine Gw.val rfl rfl rfl rfl rfl (fun us => Val.cast (val_ixaA rfl Try.underlying45 Try.ty44 rfl rfl (j := 3) (rfl) (by omega)) (v' := ptr S 5) rfl) ?_
  refine Gw.val0 rfl rfl rfl (by kernel_rfl) rfl rfl (val_load rfl Try.ty44 rfl rfl (cell_rec (k := 1) rfl rfl)) ?_
  refine Gw.val rfl rfl rfl rfl rfl (fun us => Val.cast (val_fieldAddr rfl Try.underlying24 rfl Try.ty3 rfl rfl) (v' := ptr b1 2) rfl) ?_
  refine Gw.val0 rfl rfl rfl (by kernel_rfl) rfl rfl (val_load rfl Try.ty3 rfl rfl (cell_rec (k := 0) rfl rfl)) ?_
  refine Gw.val rfl rfl rfl rfl rfl (fun us => val_move rfl rfl) ?_
  refine Gw.done ?_
  refine Gx.norm (l' := [Hp.rec_ b1 [.int .i64 2, .int .i64 3, .int .i64 ((i : Nat) : Int), .int .i64 sr, .bool wr, .int .i64 val], Hp.rec_ S [cv, ov, nowV (mo.map Om.b) a0, nowV (mo.map Om.b) a1, nowV (mo.map Om.b) a2, ptr m.b 0], Hp.own Fsd 3 cv cs, Hp.own FP 1 ov (mo.map Om.b), Hp.big opH mo, R]) rfl ?_
  refine Gx.drop 0 rfl ?_
  refine Gx.sepEq (l' := [regP S [a0, a1, a2, some k] cv ov cs mo, R]) (by have e9 := regP_shut (S := S) (cv := cv) (ov := ov) (cs := cs) (mo := mo) (R := R) (a0 := a0) (a1 := a1) (a2 := a2) (a3 := some k); rw [nowV_at hk] at e9; exact e9.trans (sep1 _ _).symm) ?_
  refine Gx.eff rfl rfl rfl (eff_call (vs := [ptr S 0, ptr m.b 0, .int .i64 ((i : Nat) : Int), .int .i64 ((mom : Nat) : Int)]) rfl Try.fn15 rfl (fun w H => reach_seen hk hs (by omega) hmk (H.at_ (k := 0) rfl))) ?_
  rintro _ l2 ⟨rfl, hl2⟩
  refine Gx.sepEq (l' := [regP S [a0, a1, a2, some k] cv ov cs mo, R]) hl2 ?_
  refine Gx.val rfl rfl rfl (val_assign rfl rfl) ?_
  refine Gx.done ?_
  refine Gx.thenN ?_
  refine Gx.ret ?_
  refine Gx.blkR ?_
  refine Gx.thenR ?_
  refine Gx.ret1 Try.results11 rfl ?_
  exact ⟨rfl, sep1 _ _⟩

theorem step_reach_go3 {W w : World} {i : Nat} {S mom : Nat} {a0 a1 a2 : Option Nat} {cv ov : Value} {cs : List Sd} {mo : List Om} {R : Hp} {sr val : Int} {wr : Bool} {k : Nat} {m : Om} (hk : mo[k]? = some m) (hw : m.o.who = 3) (hs : ¬ i ∈ m.o.seen) (hmk : mk m.o.seen < 4294967296) (hmany : m.o.many ≤ 5) (hbn : m.o.best.n ≤ 1000) (hcn : ∀ c ∈ cs, c.n ≤ 1000) (hi : i < cs.length) (h5 : cs.length ≤ 5) (H : Sat W w (regP S [a0, a1, a2, some k] cv ov cs mo * R)) :
    Calls Try.prog 11 #[ptr S 0, .agg #[.int .i64 2, .int .i64 3, .int .i64 ((i : Nat) : Int), .int .i64 sr, .bool wr, .int .i64 val], .int .i64 ((mom : Nat) : Int)] w (Ret W fun v l => v = .int .i64 0 ∧ sep l = regP S (if 2 * (m.o.many + 1) ≤ cs.length then [a0, a1, a2, some k] else if m.o.sec = true then [a0, a1, a2, none] else [a0, a1, a2, some k]) cv ov (if m.o.sec = true then storeR cs i m.o.best else cs) (mo.set k ⟨m.b, m.b2, if 2 * (m.o.many + 1) ≤ cs.length then seeR cs i m.o else turnO (seeR cs i m.o) mom⟩) * R) := by
  refine Gx.enter (l := [Hp.rec_ S [cv, ov, nowV (mo.map Om.b) a0, nowV (mo.map Om.b) a1, nowV (mo.map Om.b) a2, ptr m.b 0], Hp.own Fsd 3 cv cs, Hp.own FP 1 ov (mo.map Om.b), Hp.big opH mo, R]) Try.func11 rfl Try.ntmps11 rfl ((by have e9 := regP_open H; rw [nowV_at hk] at e9; exact e9)) ?_
  refine Gx.know (m' := [(0, ptr S 0), (1, .agg #[.int .i64 2, .int .i64 3, .int .i64 ((i : Nat) : Int), .int .i64 sr, .bool wr, .int .i64 val]), (2, .int .i64 ((mom : Nat) : Int))]) (.cons rfl (.cons rfl (.cons rfl .nil))) ?_
  refine Gx.seq ?_
  refine Gx.region ?_
  refine Gx.eff rfl rfl rfl (eff_box rfl rfl (vs := [.int .i64 2, .int .i64 3, .int .i64 ((i : Nat) : Int), .int .i64 sr, .bool wr, .int .i64 val]) rfl) ?_
  rintro _ _ ⟨b1, rfl, rfl⟩
  refine Gx.val rfl rfl rfl (val_assign rfl rfl) ?_
  refine Gx.done ?_
  refine Gx.thenN ?_
  refine Gx.seq ?_
  refine Gx.seq ?_
  refine Gx.region ?_
  refine Gx.val rfl rfl rfl (Val.cast (val_fieldAddr rfl Try.underlying24 rfl Try.ty3 rfl rfl) (v' := ptr b1 0) rfl) ?_
  refine Gx.val rfl rfl rfl (val_load rfl Try.ty3 rfl rfl (cell_rec (k := 0) rfl rfl)) ?_
  refine Gx.val rfl rfl rfl (Val.cast (val_lss rfl rfl rfl) (v' := .bool false) rfl) ?_
  refine Gx.val rfl rfl rfl (val_move rfl rfl) ?_
  refine Gx.valg rfl rfl rfl rfl rfl (Val.cast (val_fieldAddr rfl Try.underlying24 rfl Try.ty3 rfl rfl) (v' := ptr b1 0) rfl) ?_
  refine Gx.valg rfl rfl rfl rfl rfl (val_load rfl Try.ty3 rfl rfl (cell_rec (k := 0) rfl rfl)) ?_
  refine Gx.valg rfl rfl rfl rfl rfl (Val.cast (val_gtr rfl rfl rfl) (v' := .bool false) rfl) ?_
  refine Gx.val rfl rfl rfl (val_pickF rfl rfl rfl) ?_
  refine Gx.done ?_
  refine Gx.thenN ?_
  refine Gx.f rfl ?_
  refine Gx.skip ?_
  refine Gx.thenN ?_
  refine Gx.seq ?_
  refine Gx.seq ?_
  refine Gx.regionQ Try.mixed (by kernel_rfl) ?_
  refine Gq.val rfl rfl rfl (Val.cast (val_fieldAddr rfl Try.underlying24 rfl Try.ty3 rfl rfl) (v' := ptr b1 0) rfl) ?_
  refine Gq.val rfl rfl rfl (val_load rfl Try.ty3 rfl rfl (cell_rec (k := 0) rfl rfl)) ?_
  refine Gq.val rfl rfl rfl (Val.cast (val_neq rfl rfl rfl) (v' := .bool true) rfl) ?_
  refine Gq.val rfl rfl rfl (val_move rfl rfl) ?_
  refine Gq.valg rfl rfl rfl rfl rfl (Val.cast (val_fieldAddr rfl Try.underlying24 rfl Try.ty3 rfl rfl) (v' := ptr b1 1) rfl) ?_
  refine Gq.valg rfl rfl rfl rfl rfl (val_load rfl Try.ty3 rfl rfl (cell_rec (k := 0) rfl rfl)) ?_
  refine Gq.valg rfl rfl rfl rfl rfl (Val.cast (val_lss rfl rfl rfl) (v' := .bool false) rfl) ?_
  refine Gq.valg rfl rfl rfl rfl rfl (val_move rfl rfl) ?_
  refine Gq.valg rfl rfl rfl rfl rfl (Val.cast (val_fieldAddr rfl Try.underlying24 rfl Try.ty3 rfl rfl) (v' := ptr b1 1) rfl) ?_
  refine Gq.valg rfl rfl rfl rfl rfl (val_load rfl Try.ty3 rfl rfl (cell_rec (k := 0) rfl rfl)) ?_
  refine Gq.valg rfl rfl rfl rfl rfl (Val.cast (val_geq rfl rfl rfl) (v' := .bool false) rfl) ?_
  refine Gq.valg rfl rfl rfl rfl rfl (val_pickF rfl rfl rfl) ?_
  refine Gq.val rfl rfl rfl (val_pickT rfl rfl rfl) ?_
  refine Gq.val rfl rfl rfl (val_move rfl rfl) ?_
  refine Gq.valg rfl rfl rfl rfl rfl (Val.cast (val_fieldAddr rfl Try.underlying24 rfl Try.ty3 rfl rfl) (v' := ptr b1 0) rfl) ?_
  refine Gq.valg rfl rfl rfl rfl rfl (val_load rfl Try.ty3 rfl rfl (cell_rec (k := 0) rfl rfl)) ?_
  refine Gq.valg rfl rfl rfl rfl rfl (Val.cast (val_neq rfl rfl rfl) (v' := .bool true) rfl) ?_
  refine Gq.valg rfl rfl rfl rfl rfl (val_move rfl rfl) ?_
  refine Gq.valg rfl rfl rfl rfl rfl (Val.cast (val_fieldAddr rfl Try.underlying24 rfl Try.ty3 rfl rfl) (v' := ptr b1 2) rfl) ?_
  refine Gq.valg rfl rfl rfl rfl rfl (val_load rfl Try.ty3 rfl rfl (cell_rec (k := 0) rfl rfl)) ?_
  refine Gq.valg rfl rfl rfl rfl rfl (val_lss rfl rfl rfl) ?_
  refine Gq.valg rfl rfl rfl rfl rfl (val_move rfl rfl) ?_
  refine Gq.slot (t := 36) (v := .bool false) (look_decF rfl (by omega)) ?_
  refine Gq.valg rfl rfl rfl rfl rfl (Val.cast (val_fieldAddr rfl Try.underlying24 rfl Try.ty3 rfl rfl) (v' := ptr b1 2) rfl) ?_
  refine Gq.valg rfl rfl rfl rfl rfl (val_load rfl Try.ty3 rfl rfl (cell_rec (k := 0) rfl rfl)) ?_
  refine Gq.valg rfl rfl rfl rfl rfl (val_move rfl rfl) ?_
  refine Gq.valg rfl rfl rfl rfl rfl (val_nilCheck rfl rfl) ?_
  refine Gq.valg rfl rfl rfl rfl rfl (Val.cast (val_fieldAddr rfl Try.underlying47 rfl Try.ty42 rfl rfl) (v' := ptr S 0) rfl) ?_
  refine Gq.valg rfl rfl rfl rfl rfl (val_load rfl Try.ty42 rfl rfl (cell_rec (k := 1) rfl rfl)) ?_
  refine Gq.valg rfl rfl rfl rfl rfl (val_len rfl Try.underlying42 rfl (len_own (k := 2) rfl)) ?_
  refine Gq.valg rfl rfl rfl rfl rfl (val_geq rfl rfl rfl) ?_
  refine Gq.valg rfl rfl rfl rfl rfl (val_pickF rfl rfl rfl) ?_
  refine Gq.valg rfl rfl rfl rfl rfl (val_pickT rfl rfl rfl) ?_
  refine Gq.val rfl rfl rfl (val_pickF rfl rfl rfl) ?_
  refine Gq.done ?_
  refine Gx.thenN ?_
  refine Gx.decF rfl (by omega) ?_
  refine Gx.skip ?_
  refine Gx.thenN ?_
  refine Gx.seq ?_
  refine Gx.seq ?_
  refine Gx.region ?_
  refine Gx.val rfl rfl rfl (Val.cast (val_fieldAddr rfl Try.underlying24 rfl Try.ty3 rfl rfl) (v' := ptr b1 0) rfl) ?_
  refine Gx.val rfl rfl rfl (val_load rfl Try.ty3 rfl rfl (cell_rec (k := 0) rfl rfl)) ?_
  refine Gx.done ?_
  refine Gx.thenN ?_
  refine Gx.block ?_
  refine Gx.seq ?_
  refine Gx.region ?_
  refine Gx.val rfl rfl rfl (Val.cast (val_eql rfl rfl rfl) (v' := .bool false) rfl) ?_
  refine Gx.val rfl rfl rfl (val_assign rfl rfl) ?_
  refine Gx.done ?_
  refine Gx.thenN ?_
  refine Gx.f rfl ?_
  refine Gx.seq ?_
  refine Gx.region ?_
  refine Gx.val rfl rfl rfl (Val.cast (val_eql rfl rfl rfl) (v' := .bool true) rfl) ?_
  refine Gx.val rfl rfl rfl (val_assign rfl rfl) ?_
  refine Gx.done ?_
  refine Gx.thenN ?_
  refine Gx.t rfl ?_
  refine Gx.seq ?_
  refine Gx.regionO (fun j => false) 11 [0, 1, 2, 3, 4, 5, 6, 7, 8, 9, 10] (fun _ => [Hp.rec_ b1 [.int .i64 2, .int .i64 3, .int .i64 ((i : Nat) : Int), .int .i64 sr, .bool wr, .int .i64 val], Hp.rec_ S [cv, ov, nowV (mo.map Om.b) a0, nowV (mo.map Om.b) a1, nowV (mo.map Om.b) a2, ptr m.b 0], Hp.own Fsd 3 cv cs, Hp.own FP 1 ov (mo.map Om.b), Hp.big opH mo, R]) Try.mixed (by kernel_rfl) rfl ?_
  refine Gw.val rfl rfl rfl rfl rfl (fun us => val_move rfl rfl) ?_
  refine Gw.val rfl rfl rfl rfl rfl (fun us => val_move rfl rfl) ?_
  refine Gw.val rfl rfl rfl rfl rfl (fun us => Val.cast (val_fieldAddr rfl Try.underlying24 rfl Try.ty3 rfl rfl) (v' := ptr b1 1) rfl) ?_
  refine Gw.val0 rfl rfl rfl (by kernel_rfl) rfl rfl (val_load rfl Try.ty3 rfl rfl (cell_rec (k := 0) rfl rfl)) ?_
  refine Gw.val rfl rfl rfl rfl rfl (fun us => val_nilCheck rfl rfl) ?_
  refine Gw.val rfl rfl rfl rfl rfl (fun us => Val.cast (val_fieldAddr rfl Try.underlying47 rfl Try.ty45 rfl rfl) (v' := ptr S 2) rfl) ?_
  refine Gw.val rfl rfl rfl rfl rfl (fun us => Val.cast (val_ixaA rfl Try.underlying45 Try.ty44 rfl rfl (j := 3) (rfl) (by omega)) (v' := ptr S 5) rfl) ?_
  refine Gw.val0 rfl rfl rfl (by kernel_rfl) rfl rfl (val_load rfl Try.ty44 rfl rfl (cell_rec (k := 1) rfl rfl)) ?_
  refine Gw.val rfl rfl rfl rfl rfl (fun us => Val.cast (val_fieldAddr rfl Try.underlying24 rfl Try.ty3 rfl rfl) (v' := ptr b1 2) rfl) ?_
  refine Gw.val0 rfl rfl rfl (by kernel_rfl) rfl rfl (val_load rfl Try.ty3 rfl rfl (cell_rec (k := 0) rfl rfl)) ?_
  refine Gw.val rfl rfl rfl rfl rfl (fun us => val_move rfl rfl) ?_
  refine Gw.done ?_
  refine Gx.norm (l' := [Hp.rec_ b1 [.int .i64 2, .int .i64 3, .int .i64 ((i : Nat) : Int), .int .i64 sr, .bool wr, .int .i64 val], Hp.rec_ S [cv, ov, nowV (mo.map Om.b) a0, nowV (mo.map Om.b) a1, nowV (mo.map Om.b) a2, ptr m.b 0], Hp.own Fsd 3 cv cs, Hp.own FP 1 ov (mo.map Om.b), Hp.big opH mo, R]) rfl ?_
  refine Gx.drop 0 rfl ?_
  refine Gx.sepEq (l' := [regP S [a0, a1, a2, some k] cv ov cs mo, R]) (by have e9 := regP_shut (S := S) (cv := cv) (ov := ov) (cs := cs) (mo := mo) (R := R) (a0 := a0) (a1 := a1) (a2 := a2) (a3 := some k); rw [nowV_at hk] at e9; exact e9.trans (sep1 _ _).symm) ?_
  refine Gx.eff rfl rfl rfl (eff_call (vs := [ptr S 0, ptr m.b 0, .int .i64 ((i : Nat) : Int), .int .i64 ((mom : Nat) : Int)]) rfl Try.fn15 rfl (fun w H => reach_go3 hk hw hi hs h5 hmk hmany hbn hcn (H.at_ (k := 0) rfl))) ?_
  rintro _ l2 ⟨rfl, hl2⟩
  refine Gx.sepEq (l' := [regP S (if 2 * (m.o.many + 1) ≤ cs.length then [a0, a1, a2, some k] else if m.o.sec = true then [a0, a1, a2, none] else [a0, a1, a2, some k]) cv ov (if m.o.sec = true then storeR cs i m.o.best else cs) (mo.set k ⟨m.b, m.b2, if 2 * (m.o.many + 1) ≤ cs.length then seeR cs i m.o else turnO (seeR cs i m.o) mom⟩), R]) hl2 ?_
  refine Gx.val rfl rfl rfl (val_assign rfl rfl) ?_
  refine Gx.done ?_
  refine Gx.thenN ?_
  refine Gx.ret ?_
  refine Gx.blkR ?_
  refine Gx.thenR ?_
  refine Gx.ret1 Try.results11 rfl ?_
  exact ⟨rfl, sep1 _ _⟩

end Go.Proofs.Ytjiefamdpbnngaa
