/- A step of the machine. The walk. No condition. -/
import Derived.Test.YtjiefamdpbnngaaD2
namespace Go.Proofs.Ytjiefamdpbnngaa
open Go.RowKit
set_option linter.unusedVariables false
set_option linter.unusedSimpArgs false
set_option maxRecDepth 100000

theorem reg_eq {S k : Nat} {a0 a1 a2 a3 : Option Nat} {cv ov : Value} {cs : List Sd} {mo : List Om} {m : Om} {R R0 : Hp} (h1 : Hp.big opH mo = opH m * R0) :
    sep [Hp.rec_ S [cv, ov, nowV (mo.map Om.b) a0, nowV (mo.map Om.b) a1, nowV (mo.map Om.b) a2, nowV (mo.map Om.b) a3], Hp.own Fsd 3 cv cs, Hp.own FP 1 ov (mo.map Om.b),
      Hp.rec_ m.b [ptr m.b2 0, .int .i64 ((m.o.best.n : Nat) : Int), .int .i64 ((m.o.best.who : Nat) : Int), .int .i64 m.o.best.val, .bool m.o.sec, .int .u32 ((mk m.o.seen : Nat) : Int), .int .i64 ((m.o.many : Nat) : Int)],
      Hp.rec_ m.b2 [.int .i64 ((m.o.who : Nat) : Int), .int .i64 0, .bool m.o.wr, .int .i64 m.o.val, .int .i64 ((m.o.frm : Nat) : Int), .int .i64 m.o.to], R0, R] = regP S [a0, a1, a2, a3] cv ov cs mo * R := by
  rw [← regP_shut, h1]
  show _ * (_ * (_ * (_ * (_ * (_ * (R * 1)))))) = _ * (_ * (_ * (_ * (R * 1))))
  simp only [Hp.mul_assoc]
theorem reach_nil {W w : World} {S i mom : Nat} {Q : Hp} (H : Sat W w Q) : Calls Try.prog 15 #[ptr S 0, .pointer none, .int .i64 ((i : Nat) : Int), .int .i64 ((mom : Nat) : Int)] w (Ret W fun v l => v = .int .i64 6 ∧ sep l = Q) := by
  refine Gx.enter (l := [Q]) Try.func15 rfl Try.ntmps15 rfl ((H.cast (Hp.mul_one _).symm)) ?_
  refine Gx.know (m' := [(0, ptr S 0), (1, .pointer none), (2, .int .i64 ((i : Nat) : Int)), (3, .int .i64 ((mom : Nat) : Int))]) (.cons rfl (.cons rfl (.cons rfl (.cons rfl .nil)))) ?_
  refine Gx.seq ?_
  refine Gx.region ?_
  refine Gx.val rfl rfl rfl (val_assign rfl rfl) ?_
  refine Gx.done ?_
  refine Gx.thenN ?_
  refine Gx.seq ?_
  refine Gx.seq ?_
  refine Gx.region ?_
  refine Gx.val rfl rfl rfl (val_move rfl rfl) ?_
  refine Gx.val rfl rfl rfl (Val.cast (val_eqlP rfl Try.underlying44 (by kernel_rfl) rfl rfl) (v' := .bool true) rfl) ?_
  refine Gx.val rfl rfl rfl (val_move rfl rfl) ?_
  refine Gx.skipg rfl rfl rfl rfl rfl rfl ?_
  refine Gx.skipg rfl rfl rfl rfl rfl rfl ?_
  refine Gx.skipg rfl rfl rfl rfl rfl rfl ?_
  refine Gx.skipg rfl rfl rfl rfl rfl rfl ?_
  refine Gx.skipg rfl rfl rfl rfl rfl rfl ?_
  refine Gx.skipg rfl rfl rfl rfl rfl rfl ?_
  refine Gx.skipg rfl rfl rfl rfl rfl rfl ?_
  refine Gx.skipg rfl rfl rfl rfl rfl rfl ?_
  refine Gx.val rfl rfl rfl (val_pickT rfl rfl rfl) ?_
  refine Gx.done ?_
  refine Gx.thenN ?_
  refine Gx.t rfl ?_
  refine Gx.seq ?_
  refine Gx.region ?_
  refine Gx.val rfl rfl rfl (val_assign rfl rfl) ?_
  refine Gx.done ?_
  refine Gx.thenN ?_
  refine Gx.ret ?_
  refine Gx.thenR ?_
  refine Gx.ret1 Try.results15 rfl ?_
  exact ⟨rfl, by show Q * 1 = Q; rw [Hp.mul_one]⟩

theorem reach_seen {W w : World} {i k : Nat} {m : Om} {S mom : Nat} {a0 a1 a2 a3 : Option Nat} {cv ov : Value} {cs : List Sd} {mo : List Om} {R : Hp} (hk : mo[k]? = some m) (hs : i ∈ m.o.seen) (hi5 : i < 5) (hmk : mk m.o.seen < 4294967296) (H : Sat W w (regP S [a0, a1, a2, a3] cv ov cs mo * R)) : Calls Try.prog 15 #[ptr S 0, ptr m.b 0, .int .i64 ((i : Nat) : Int), .int .i64 ((mom : Nat) : Int)] w (Ret W fun v l => v = .int .i64 6 ∧ sep l = regP S [a0, a1, a2, a3] cv ov cs mo * R) := by
  obtain ⟨R0, h1, h2⟩ := Hp.big_focus opH mo k m hk
  refine Gx.enter (l := [Hp.rec_ S [cv, ov, nowV (mo.map Om.b) a0, nowV (mo.map Om.b) a1, nowV (mo.map Om.b) a2, nowV (mo.map Om.b) a3], Hp.own Fsd 3 cv cs, Hp.own FP 1 ov (mo.map Om.b), Hp.rec_ m.b [ptr m.b2 0, .int .i64 ((m.o.best.n : Nat) : Int), .int .i64 ((m.o.best.who : Nat) : Int), .int .i64 m.o.best.val, .bool m.o.sec, .int .u32 (((mk m.o.seen) : Nat) : Int), .int .i64 ((m.o.many : Nat) : Int)], Hp.rec_ m.b2 [.int .i64 ((m.o.who : Nat) : Int), .int .i64 0, .bool m.o.wr, .int .i64 m.o.val, .int .i64 ((m.o.frm : Nat) : Int), .int .i64 m.o.to], R0, R]) Try.func15 rfl Try.ntmps15 rfl ((H.cast (reg_eq (k := k) h1).symm)) ?_
  refine Gx.know (m' := [(0, ptr S 0), (1, ptr m.b 0), (2, .int .i64 ((i : Nat) : Int)), (3, .int .i64 ((mom : Nat) : Int))]) (.cons rfl (.cons rfl (.cons rfl (.cons rfl .nil)))) ?_
  refine Gx.seq ?_
  refine Gx.region ?_
  refine Gx.val rfl rfl rfl (val_assign rfl rfl) ?_
  refine Gx.done ?_
  refine Gx.thenN ?_
  refine Gx.seq ?_
  refine Gx.seq ?_
  refine Gx.region ?_
  refine Gx.val rfl rfl rfl (val_move rfl rfl) ?_
  refine Gx.val rfl rfl rfl (Val.cast (val_eqlP rfl Try.underlying44 (by kernel_rfl) rfl rfl) (v' := .bool false) rfl) ?_
  refine Gx.val rfl rfl rfl (val_move rfl rfl) ?_
  refine Gx.valg rfl rfl rfl rfl rfl (val_move rfl rfl) ?_
  refine Gx.valg rfl rfl rfl rfl rfl (val_nilCheck rfl rfl) ?_
  refine Gx.valg rfl rfl rfl rfl rfl (Val.cast (val_fieldAddr rfl Try.underlying54 rfl Try.ty52 rfl rfl) (v' := ptr m.b 5) rfl) ?_
  refine Gx.valg rfl rfl rfl rfl rfl (val_load rfl Try.ty52 rfl rfl (cell_rec (k := 3) rfl rfl)) ?_
  refine Gx.valg rfl rfl rfl rfl rfl (val_move rfl rfl) ?_
  refine Gx.valg rfl rfl rfl rfl rfl (val_shr (b := i) rfl rfl rfl rfl (by show i ≤ 32; omega) (shr32 _ _)) ?_
  refine Gx.valg rfl rfl rfl rfl rfl (val_and rfl rfl rfl (and_mk i hmk)) ?_
  refine Gx.valg rfl rfl rfl rfl rfl (val_eql rfl rfl rfl) ?_
  refine Gx.val rfl rfl rfl (val_pickF rfl rfl rfl) ?_
  refine Gx.done ?_
  refine Gx.thenN ?_
  refine Gx.decT rfl (by rw [if_pos hs]; decide) ?_
  refine Gx.seq ?_
  refine Gx.region ?_
  refine Gx.val rfl rfl rfl (val_assign rfl rfl) ?_
  refine Gx.done ?_
  refine Gx.thenN ?_
  refine Gx.ret ?_
  refine Gx.thenR ?_
  refine Gx.ret1 Try.results15 rfl ?_
  exact ⟨rfl, reg_eq (k := k) h1⟩

theorem step_kind {W w : World} {S mom : Nat} {a0 a1 a2 a3 : Option Nat} {cv ov : Value} {cs : List Sd} {mo : List Om} {R : Hp} {kd x lo sr val : Int} {wr : Bool} (hkd : kd < 1 ∨ 3 < kd) (H : Sat W w (regP S [a0, a1, a2, a3] cv ov cs mo * R)) :
    Calls Try.prog 11 #[ptr S 0, .agg #[.int .i64 kd, .int .i64 x, .int .i64 lo, .int .i64 sr, .bool wr, .int .i64 val], .int .i64 ((mom : Nat) : Int)] w (Ret W fun v l => v = .int .i64 4 ∧ sep l = regP S [a0, a1, a2, a3] cv ov cs mo * R) := by
  refine Gx.enter (l := [Hp.rec_ S [cv, ov, nowV (mo.map Om.b) a0, nowV (mo.map Om.b) a1, nowV (mo.map Om.b) a2, nowV (mo.map Om.b) a3], Hp.own Fsd 3 cv cs, Hp.own FP 1 ov (mo.map Om.b), Hp.big opH mo, R]) Try.func11 rfl Try.ntmps11 rfl ((regP_open H)) ?_
  refine Gx.know (m' := [(0, ptr S 0), (1, .agg #[.int .i64 kd, .int .i64 x, .int .i64 lo, .int .i64 sr, .bool wr, .int .i64 val]), (2, .int .i64 ((mom : Nat) : Int))]) (.cons rfl (.cons rfl (.cons rfl .nil))) ?_
  refine Gx.seq ?_
  refine Gx.region ?_
  refine Gx.eff rfl rfl rfl (eff_box rfl rfl (vs := [.int .i64 kd, .int .i64 x, .int .i64 lo, .int .i64 sr, .bool wr, .int .i64 val]) rfl) ?_
  rintro _ _ ⟨b1, rfl, rfl⟩
  refine Gx.val rfl rfl rfl (val_assign rfl rfl) ?_
  refine Gx.done ?_
  refine Gx.thenN ?_
  refine Gx.seq ?_
  refine Gx.seq ?_
  refine Gx.region ?_
  refine Gx.val rfl rfl rfl (Val.cast (val_fieldAddr rfl Try.underlying24 rfl Try.ty3 rfl rfl) (v' := ptr b1 0) rfl) ?_
  refine Gx.val rfl rfl rfl (val_load rfl Try.ty3 rfl rfl (cell_rec (k := 0) rfl rfl)) ?_
  refine Gx.val rfl rfl rfl (val_lss rfl rfl rfl) ?_
  refine Gx.val rfl rfl rfl (val_move rfl rfl) ?_
  refine Gx.cases (t := 10) rfl (fun h2 => ?_) (fun h2 => ?_)
  · refine Gx.skipg rfl rfl rfl rfl rfl rfl ?_
    refine Gx.skipg rfl rfl rfl rfl rfl rfl ?_
    refine Gx.skipg rfl rfl rfl rfl rfl rfl ?_
    refine Gx.val rfl rfl rfl (val_pickT rfl rfl rfl) ?_
    refine Gx.done ?_
    refine Gx.thenN ?_
    refine Gx.t rfl ?_
    refine Gx.seq ?_
    refine Gx.region ?_
    refine Gx.val rfl rfl rfl (val_assign rfl rfl) ?_
    refine Gx.done ?_
    refine Gx.thenN ?_
    refine Gx.ret ?_
    refine Gx.thenR ?_
    refine Gx.drop 0 rfl ?_
    refine Gx.ret1 Try.results11 rfl ?_
    exact ⟨rfl, regP_shut⟩
  · refine Gx.valg rfl rfl rfl rfl rfl (Val.cast (val_fieldAddr rfl Try.underlying24 rfl Try.ty3 rfl rfl) (v' := ptr b1 0) rfl) ?_
    refine Gx.valg rfl rfl rfl rfl rfl (val_load rfl Try.ty3 rfl rfl (cell_rec (k := 0) rfl rfl)) ?_
    refine Gx.valg rfl rfl rfl rfl rfl (val_gtr rfl rfl rfl) ?_
    refine Gx.val rfl rfl rfl (val_pickF rfl rfl rfl) ?_
    refine Gx.done ?_
    refine Gx.thenN ?_
    refine Gx.dec rfl (fun h3 => ?_) (fun h3 => ?_)
    · refine Gx.seq ?_
      refine Gx.region ?_
      refine Gx.val rfl rfl rfl (val_assign rfl rfl) ?_
      refine Gx.done ?_
      refine Gx.thenN ?_
      refine Gx.ret ?_
      refine Gx.thenR ?_
      refine Gx.drop 0 rfl ?_
      refine Gx.ret1 Try.results11 rfl ?_
      exact ⟨rfl, regP_shut⟩
    · exfalso; omega

theorem step_arg {W w : World} {S mom : Nat} {a0 a1 a2 a3 : Option Nat} {cv ov : Value} {cs : List Sd} {mo : List Om} {R : Hp} {kd x lo sr val : Int} {wr : Bool} (hkd : ¬ (kd < 1 ∨ 3 < kd)) (ha : (kd ≠ 3 ∧ (x < 0 ∨ 4 ≤ x)) ∨ (kd ≠ 1 ∧ (lo < 0 ∨ (cs.length : Int) ≤ lo))) (H : Sat W w (regP S [a0, a1, a2, a3] cv ov cs mo * R)) :
    Calls Try.prog 11 #[ptr S 0, .agg #[.int .i64 kd, .int .i64 x, .int .i64 lo, .int .i64 sr, .bool wr, .int .i64 val], .int .i64 ((mom : Nat) : Int)] w (Ret W fun v l => v = .int .i64 2 ∧ sep l = regP S [a0, a1, a2, a3] cv ov cs mo * R) := by
  refine Gx.enter (l := [Hp.rec_ S [cv, ov, nowV (mo.map Om.b) a0, nowV (mo.map Om.b) a1, nowV (mo.map Om.b) a2, nowV (mo.map Om.b) a3], Hp.own Fsd 3 cv cs, Hp.own FP 1 ov (mo.map Om.b), Hp.big opH mo, R]) Try.func11 rfl Try.ntmps11 rfl ((regP_open H)) ?_
  refine Gx.know (m' := [(0, ptr S 0), (1, .agg #[.int .i64 kd, .int .i64 x, .int .i64 lo, .int .i64 sr, .bool wr, .int .i64 val]), (2, .int .i64 ((mom : Nat) : Int))]) (.cons rfl (.cons rfl (.cons rfl .nil))) ?_
  refine Gx.seq ?_
  refine Gx.region ?_
  refine Gx.eff rfl rfl rfl (eff_box rfl rfl (vs := [.int .i64 kd, .int .i64 x, .int .i64 lo, .int .i64 sr, .bool wr, .int .i64 val]) rfl) ?_
  rintro _ _ ⟨b1, rfl, rfl⟩
  refine Gx.val rfl rfl rfl (val_assign rfl rfl) ?_
  refine Gx.done ?_
  refine Gx.thenN ?_
  refine Gx.seq ?_
  refine Gx.seq ?_
  refine Gx.region ?_
  refine Gx.val rfl rfl rfl (Val.cast (val_fieldAddr rfl Try.underlying24 rfl Try.ty3 rfl rfl) (v' := ptr b1 0) rfl) ?_
  refine Gx.val rfl rfl rfl (val_load rfl Try.ty3 rfl rfl (cell_rec (k := 0) rfl rfl)) ?_
  refine Gx.val rfl rfl rfl (val_lss rfl rfl rfl) ?_
  refine Gx.val rfl rfl rfl (val_move rfl rfl) ?_
  refine Gx.slot (t := 10) (v := .bool false) (look_decF rfl (by omega)) ?_
  refine Gx.valg rfl rfl rfl rfl rfl (Val.cast (val_fieldAddr rfl Try.underlying24 rfl Try.ty3 rfl rfl) (v' := ptr b1 0) rfl) ?_
  refine Gx.valg rfl rfl rfl rfl rfl (val_load rfl Try.ty3 rfl rfl (cell_rec (k := 0) rfl rfl)) ?_
  refine Gx.valg rfl rfl rfl rfl rfl (val_gtr rfl rfl rfl) ?_
  refine Gx.val rfl rfl rfl (val_pickF rfl rfl rfl) ?_
  refine Gx.done ?_
  refine Gx.thenN ?_
  refine Gx.decF rfl (by omega) ?_
  refine Gx.skip ?_
  refine Gx.thenN ?_
  refine Gx.seq ?_
  refine Gx.seq ?_
  refine Gx.regionQ Try.mixed (by kernel_rfl) ?_
  refine Gq.val rfl rfl rfl (Val.cast (val_fieldAddr rfl Try.underlying24 rfl Try.ty3 rfl rfl) (v' := ptr b1 0) rfl) ?_
  refine Gq.val rfl rfl rfl (val_load rfl Try.ty3 rfl rfl (cell_rec (k := 0) rfl rfl)) ?_
  refine Gq.val rfl rfl rfl (val_neq rfl rfl rfl) ?_
  refine Gq.val rfl rfl rfl (val_move rfl rfl) ?_
  refine Gq.cases (t := 18) rfl (fun h2 => ?_) (fun h2 => ?_)
  · refine Gq.valg rfl rfl rfl rfl rfl (Val.cast (val_fieldAddr rfl Try.underlying24 rfl Try.ty3 rfl rfl) (v' := ptr b1 1) rfl) ?_
    refine Gq.valg rfl rfl rfl rfl rfl (val_load rfl Try.ty3 rfl rfl (cell_rec (k := 0) rfl rfl)) ?_
    refine Gq.valg rfl rfl rfl rfl rfl (val_lss rfl rfl rfl) ?_
    refine Gq.valg rfl rfl rfl rfl rfl (val_move rfl rfl) ?_
    refine Gq.cases (t := 22) rfl (fun h3 => ?_) (fun h3 => ?_)
    · refine Gq.skipg rfl rfl rfl rfl rfl rfl ?_
      refine Gq.skipg rfl rfl rfl rfl rfl rfl ?_
      refine Gq.skipg rfl rfl rfl rfl rfl rfl ?_
      refine Gq.valg rfl rfl rfl rfl rfl (val_pickT rfl rfl rfl) ?_
      refine Gq.val rfl rfl rfl (val_pickT rfl rfl rfl) ?_
      refine Gq.val rfl rfl rfl (val_move rfl rfl) ?_
      refine Gq.skipg rfl rfl rfl rfl rfl rfl ?_
      refine Gq.skipg rfl rfl rfl rfl rfl rfl ?_
      refine Gq.skipg rfl rfl rfl rfl rfl rfl ?_
      refine Gq.skipg rfl rfl rfl rfl rfl rfl ?_
      refine Gq.skipu rfl rfl rfl rfl rfl ?_
      refine Gq.skipu rfl rfl rfl rfl rfl ?_
      refine Gq.skipu rfl rfl rfl rfl rfl ?_
      refine Gq.skipu rfl rfl rfl rfl rfl ?_
      refine Gq.skipu rfl rfl rfl rfl rfl ?_
      refine Gq.skipu rfl rfl rfl rfl rfl ?_
      refine Gq.skipu rfl rfl rfl rfl rfl ?_
      refine Gq.skipu rfl rfl rfl rfl rfl ?_
      refine Gq.skipu rfl rfl rfl rfl rfl ?_
      refine Gq.skipu rfl rfl rfl rfl rfl ?_
      refine Gq.skipu rfl rfl rfl rfl rfl ?_
      refine Gq.skipu rfl rfl rfl rfl rfl ?_
      refine Gq.skipu rfl rfl rfl rfl rfl ?_
      refine Gq.skipg rfl rfl rfl rfl rfl rfl ?_
      refine Gq.val rfl rfl rfl (val_pickT rfl rfl rfl) ?_
      refine Gq.done ?_
      refine Gx.thenN ?_
      refine Gx.t rfl ?_
      refine Gx.seq ?_
      refine Gx.region ?_
      refine Gx.val rfl rfl rfl (val_assign rfl rfl) ?_
      refine Gx.done ?_
      refine Gx.thenN ?_
      refine Gx.ret ?_
      refine Gx.thenR ?_
      refine Gx.drop 0 rfl ?_
      refine Gx.ret1 Try.results11 rfl ?_
      exact ⟨rfl, regP_shut⟩
    · refine Gq.valg rfl rfl rfl rfl rfl (Val.cast (val_fieldAddr rfl Try.underlying24 rfl Try.ty3 rfl rfl) (v' := ptr b1 1) rfl) ?_
      refine Gq.valg rfl rfl rfl rfl rfl (val_load rfl Try.ty3 rfl rfl (cell_rec (k := 0) rfl rfl)) ?_
      refine Gq.valg rfl rfl rfl rfl rfl (val_geq rfl rfl rfl) ?_
      refine Gq.valg rfl rfl rfl rfl rfl (val_pickF rfl rfl rfl) ?_
      refine Gq.val rfl rfl rfl (val_pickT rfl rfl rfl) ?_
      refine Gq.val rfl rfl rfl (val_move rfl rfl) ?_
      refine Gq.cases (t := 28) rfl (fun h4 => ?_) (fun h4 => ?_)
      · refine Gq.skipg rfl rfl rfl rfl rfl rfl ?_
        refine Gq.skipg rfl rfl rfl rfl rfl rfl ?_
        refine Gq.skipg rfl rfl rfl rfl rfl rfl ?_
        refine Gq.skipg rfl rfl rfl rfl rfl rfl ?_
        refine Gq.skipu rfl rfl rfl rfl rfl ?_
        refine Gq.skipu rfl rfl rfl rfl rfl ?_
        refine Gq.skipu rfl rfl rfl rfl rfl ?_
        refine Gq.skipu rfl rfl rfl rfl rfl ?_
        refine Gq.skipu rfl rfl rfl rfl rfl ?_
        refine Gq.skipu rfl rfl rfl rfl rfl ?_
        refine Gq.skipu rfl rfl rfl rfl rfl ?_
        refine Gq.skipu rfl rfl rfl rfl rfl ?_
        refine Gq.skipu rfl rfl rfl rfl rfl ?_
        refine Gq.skipu rfl rfl rfl rfl rfl ?_
        refine Gq.skipu rfl rfl rfl rfl rfl ?_
        refine Gq.skipu rfl rfl rfl rfl rfl ?_
        refine Gq.skipu rfl rfl rfl rfl rfl ?_
        refine Gq.skipg rfl rfl rfl rfl rfl rfl ?_
        refine Gq.val rfl rfl rfl (val_pickT rfl rfl rfl) ?_
        refine Gq.done ?_
        refine Gx.thenN ?_
        refine Gx.t rfl ?_
        refine Gx.seq ?_
        refine Gx.region ?_
        refine Gx.val rfl rfl rfl (val_assign rfl rfl) ?_
        refine Gx.done ?_
        refine Gx.thenN ?_
        refine Gx.ret ?_
        refine Gx.thenR ?_
        refine Gx.drop 0 rfl ?_
        refine Gx.ret1 Try.results11 rfl ?_
        exact ⟨rfl, regP_shut⟩
      · refine Gq.valg rfl rfl rfl rfl rfl (Val.cast (val_fieldAddr rfl Try.underlying24 rfl Try.ty3 rfl rfl) (v' := ptr b1 0) rfl) ?_
        refine Gq.valg rfl rfl rfl rfl rfl (val_load rfl Try.ty3 rfl rfl (cell_rec (k := 0) rfl rfl)) ?_
        refine Gq.valg rfl rfl rfl rfl rfl (val_neq rfl rfl rfl) ?_
        refine Gq.valg rfl rfl rfl rfl rfl (val_move rfl rfl) ?_
        refine Gq.cases (t := 32) rfl (fun h5 => ?_) (fun h5 => ?_)
        · refine Gq.valg rfl rfl rfl rfl rfl (Val.cast (val_fieldAddr rfl Try.underlying24 rfl Try.ty3 rfl rfl) (v' := ptr b1 2) rfl) ?_
          refine Gq.valg rfl rfl rfl rfl rfl (val_load rfl Try.ty3 rfl rfl (cell_rec (k := 0) rfl rfl)) ?_
          refine Gq.valg rfl rfl rfl rfl rfl (val_lss rfl rfl rfl) ?_
          refine Gq.valg rfl rfl rfl rfl rfl (val_move rfl rfl) ?_
          refine Gq.cases (t := 36) rfl (fun h6 => ?_) (fun h6 => ?_)
          · refine Gq.skipg rfl rfl rfl rfl rfl rfl ?_
            refine Gq.skipg rfl rfl rfl rfl rfl rfl ?_
            refine Gq.skipg rfl rfl rfl rfl rfl rfl ?_
            refine Gq.skipg rfl rfl rfl rfl rfl rfl ?_
            refine Gq.skipg rfl rfl rfl rfl rfl rfl ?_
            refine Gq.skipg rfl rfl rfl rfl rfl rfl ?_
            refine Gq.skipg rfl rfl rfl rfl rfl rfl ?_
            refine Gq.skipg rfl rfl rfl rfl rfl rfl ?_
            refine Gq.valg rfl rfl rfl rfl rfl (val_pickT rfl rfl rfl) ?_
            refine Gq.valg rfl rfl rfl rfl rfl (val_pickT rfl rfl rfl) ?_
            refine Gq.val rfl rfl rfl (val_pickF rfl rfl rfl) ?_
            refine Gq.done ?_
            refine Gx.thenN ?_
            refine Gx.t rfl ?_
            refine Gx.seq ?_
            refine Gx.region ?_
            refine Gx.val rfl rfl rfl (val_assign rfl rfl) ?_
            refine Gx.done ?_
            refine Gx.thenN ?_
            refine Gx.ret ?_
            refine Gx.thenR ?_
            refine Gx.drop 0 rfl ?_
            refine Gx.ret1 Try.results11 rfl ?_
            exact ⟨rfl, regP_shut⟩
          · refine Gq.valg rfl rfl rfl rfl rfl (Val.cast (val_fieldAddr rfl Try.underlying24 rfl Try.ty3 rfl rfl) (v' := ptr b1 2) rfl) ?_
            refine Gq.valg rfl rfl rfl rfl rfl (val_load rfl Try.ty3 rfl rfl (cell_rec (k := 0) rfl rfl)) ?_
            refine Gq.valg rfl rfl rfl rfl rfl (val_move rfl rfl) ?_
            refine Gq.valg rfl rfl rfl rfl rfl (val_nilCheck rfl rfl) ?_
            refine Gq.valg rfl rfl rfl rfl rfl (Val.cast (val_fieldAddr rfl Try.underlying47 rfl Try.ty42 rfl rfl) (v' := ptr S 0) rfl) ?_
            refine Gq.valg rfl rfl rfl rfl rfl (val_load rfl Try.ty42 rfl rfl (cell_rec (k := 1) rfl rfl)) ?_
            refine Gq.valg rfl rfl rfl rfl rfl (val_len rfl Try.underlying42 rfl (len_own (k := 2) rfl)) ?_
            refine Gq.valg rfl rfl rfl rfl rfl (val_geq rfl rfl rfl) ?_
            refine Gq.valg rfl rfl rfl rfl rfl (val_pickF rfl rfl rfl) ?_
            refine Gq.valg rfl rfl rfl rfl rfl (val_pickT rfl rfl rfl) ?_
            refine Gq.val rfl rfl rfl (val_pickF rfl rfl rfl) ?_
            refine Gq.done ?_
            refine Gx.thenN ?_
            refine Gx.dec rfl (fun h7 => ?_) (fun h7 => ?_)
            · refine Gx.seq ?_
              refine Gx.region ?_
              refine Gx.val rfl rfl rfl (val_assign rfl rfl) ?_
              refine Gx.done ?_
              refine Gx.thenN ?_
              refine Gx.ret ?_
              refine Gx.thenR ?_
              refine Gx.drop 0 rfl ?_
              refine Gx.ret1 Try.results11 rfl ?_
              exact ⟨rfl, regP_shut⟩
            · exfalso; omega
        · refine Gq.skipg rfl rfl rfl rfl rfl rfl ?_
          refine Gq.skipg rfl rfl rfl rfl rfl rfl ?_
          refine Gq.skipg rfl rfl rfl rfl rfl rfl ?_
          refine Gq.skipg rfl rfl rfl rfl rfl rfl ?_
          refine Gq.skipu rfl rfl rfl rfl rfl ?_
          refine Gq.skipu rfl rfl rfl rfl rfl ?_
          refine Gq.skipu rfl rfl rfl rfl rfl ?_
          refine Gq.skipu rfl rfl rfl rfl rfl ?_
          refine Gq.skipu rfl rfl rfl rfl rfl ?_
          refine Gq.skipu rfl rfl rfl rfl rfl ?_
          refine Gq.skipu rfl rfl rfl rfl rfl ?_
          refine Gq.skipu rfl rfl rfl rfl rfl ?_
          refine Gq.skipg rfl rfl rfl rfl rfl rfl ?_
          refine Gq.valg rfl rfl rfl rfl rfl (val_pickF rfl rfl rfl) ?_
          refine Gq.val rfl rfl rfl (val_pickF rfl rfl rfl) ?_
          refine Gq.done ?_
          refine Gx.thenN ?_
          refine Gx.f rfl ?_
          refine Gx.skip ?_
          refine Gx.thenN ?_
          refine Gx.seq ?_
          refine Gx.seq ?_
          exfalso; omega
  · refine Gq.skipg rfl rfl rfl rfl rfl rfl ?_
    refine Gq.skipg rfl rfl rfl rfl rfl rfl ?_
    refine Gq.skipg rfl rfl rfl rfl rfl rfl ?_
    refine Gq.skipg rfl rfl rfl rfl rfl rfl ?_
    refine Gq.skipu rfl rfl rfl rfl rfl ?_
    refine Gq.skipu rfl rfl rfl rfl rfl ?_
    refine Gq.skipu rfl rfl rfl rfl rfl ?_
    refine Gq.skipg rfl rfl rfl rfl rfl rfl ?_
    refine Gq.val rfl rfl rfl (val_pickF rfl rfl rfl) ?_
    refine Gq.val rfl rfl rfl (val_move rfl rfl) ?_
    refine Gq.valg rfl rfl rfl rfl rfl (Val.cast (val_fieldAddr rfl Try.underlying24 rfl Try.ty3 rfl rfl) (v' := ptr b1 0) rfl) ?_
    refine Gq.valg rfl rfl rfl rfl rfl (val_load rfl Try.ty3 rfl rfl (cell_rec (k := 0) rfl rfl)) ?_
    refine Gq.valg rfl rfl rfl rfl rfl (val_neq rfl rfl rfl) ?_
    refine Gq.valg rfl rfl rfl rfl rfl (val_move rfl rfl) ?_
    refine Gq.cases (t := 32) rfl (fun h8 => ?_) (fun h8 => ?_)
    · refine Gq.valg rfl rfl rfl rfl rfl (Val.cast (val_fieldAddr rfl Try.underlying24 rfl Try.ty3 rfl rfl) (v' := ptr b1 2) rfl) ?_
      refine Gq.valg rfl rfl rfl rfl rfl (val_load rfl Try.ty3 rfl rfl (cell_rec (k := 0) rfl rfl)) ?_
      refine Gq.valg rfl rfl rfl rfl rfl (val_lss rfl rfl rfl) ?_
      refine Gq.valg rfl rfl rfl rfl rfl (val_move rfl rfl) ?_
      refine Gq.cases (t := 36) rfl (fun h9 => ?_) (fun h9 => ?_)
      · refine Gq.skipg rfl rfl rfl rfl rfl rfl ?_
        refine Gq.skipg rfl rfl rfl rfl rfl rfl ?_
        refine Gq.skipg rfl rfl rfl rfl rfl rfl ?_
        refine Gq.skipg rfl rfl rfl rfl rfl rfl ?_
        refine Gq.skipg rfl rfl rfl rfl rfl rfl ?_
        refine Gq.skipg rfl rfl rfl rfl rfl rfl ?_
        refine Gq.skipg rfl rfl rfl rfl rfl rfl ?_
        refine Gq.skipg rfl rfl rfl rfl rfl rfl ?_
        refine Gq.valg rfl rfl rfl rfl rfl (val_pickT rfl rfl rfl) ?_
        refine Gq.valg rfl rfl rfl rfl rfl (val_pickT rfl rfl rfl) ?_
        refine Gq.val rfl rfl rfl (val_pickF rfl rfl rfl) ?_
        refine Gq.done ?_
        refine Gx.thenN ?_
        refine Gx.t rfl ?_
        refine Gx.seq ?_
        refine Gx.region ?_
        refine Gx.val rfl rfl rfl (val_assign rfl rfl) ?_
        refine Gx.done ?_
        refine Gx.thenN ?_
        refine Gx.ret ?_
        refine Gx.thenR ?_
        refine Gx.drop 0 rfl ?_
        refine Gx.ret1 Try.results11 rfl ?_
        exact ⟨rfl, regP_shut⟩
      · refine Gq.valg rfl rfl rfl rfl rfl (Val.cast (val_fieldAddr rfl Try.underlying24 rfl Try.ty3 rfl rfl) (v' := ptr b1 2) rfl) ?_
        refine Gq.valg rfl rfl rfl rfl rfl (val_load rfl Try.ty3 rfl rfl (cell_rec (k := 0) rfl rfl)) ?_
        refine Gq.valg rfl rfl rfl rfl rfl (val_move rfl rfl) ?_
        refine Gq.valg rfl rfl rfl rfl rfl (val_nilCheck rfl rfl) ?_
        refine Gq.valg rfl rfl rfl rfl rfl (Val.cast (val_fieldAddr rfl Try.underlying47 rfl Try.ty42 rfl rfl) (v' := ptr S 0) rfl) ?_
        refine Gq.valg rfl rfl rfl rfl rfl (val_load rfl Try.ty42 rfl rfl (cell_rec (k := 1) rfl rfl)) ?_
        refine Gq.valg rfl rfl rfl rfl rfl (val_len rfl Try.underlying42 rfl (len_own (k := 2) rfl)) ?_
        refine Gq.valg rfl rfl rfl rfl rfl (val_geq rfl rfl rfl) ?_
        refine Gq.valg rfl rfl rfl rfl rfl (val_pickF rfl rfl rfl) ?_
        refine Gq.valg rfl rfl rfl rfl rfl (val_pickT rfl rfl rfl) ?_
        refine Gq.val rfl rfl rfl (val_pickF rfl rfl rfl) ?_
        refine Gq.done ?_
        refine Gx.thenN ?_
        refine Gx.dec rfl (fun h10 => ?_) (fun h10 => ?_)
        · refine Gx.seq ?_
          refine Gx.region ?_
          refine Gx.val rfl rfl rfl (val_assign rfl rfl) ?_
          refine Gx.done ?_
          refine Gx.thenN ?_
          refine Gx.ret ?_
          refine Gx.thenR ?_
          refine Gx.drop 0 rfl ?_
          refine Gx.ret1 Try.results11 rfl ?_
          exact ⟨rfl, regP_shut⟩
        · exfalso; omega
    · refine Gq.skipg rfl rfl rfl rfl rfl rfl ?_
      refine Gq.skipg rfl rfl rfl rfl rfl rfl ?_
      refine Gq.skipg rfl rfl rfl rfl rfl rfl ?_
      refine Gq.skipg rfl rfl rfl rfl rfl rfl ?_
      refine Gq.skipu rfl rfl rfl rfl rfl ?_
      refine Gq.skipu rfl rfl rfl rfl rfl ?_
      refine Gq.skipu rfl rfl rfl rfl rfl ?_
      refine Gq.skipu rfl rfl rfl rfl rfl ?_
      refine Gq.skipu rfl rfl rfl rfl rfl ?_
      refine Gq.skipu rfl rfl rfl rfl rfl ?_
      refine Gq.skipu rfl rfl rfl rfl rfl ?_
      refine Gq.skipu rfl rfl rfl rfl rfl ?_
      refine Gq.skipg rfl rfl rfl rfl rfl rfl ?_
      refine Gq.valg rfl rfl rfl rfl rfl (val_pickF rfl rfl rfl) ?_
      refine Gq.val rfl rfl rfl (val_pickF rfl rfl rfl) ?_
      refine Gq.done ?_
      refine Gx.thenN ?_
      refine Gx.f rfl ?_
      refine Gx.skip ?_
      refine Gx.thenN ?_
      refine Gx.seq ?_
      refine Gx.seq ?_
      exfalso; omega

theorem late_out {W w : World} {S mom : Nat} {a0 a1 a2 a3 : Option Nat} {cv ov : Value} {cs : List Sd} {mo : List Om} {R : Hp} {x sr val : Int} {wr : Bool} {i : Nat} (hi : i < cs.length) (hsr : sr < 0 ∨ (mo.length : Int) ≤ sr) (H : Sat W w (regP S [a0, a1, a2, a3] cv ov cs mo * R)) :
    Calls Try.prog 11 #[ptr S 0, .agg #[.int .i64 3, .int .i64 x, .int .i64 ((i : Nat) : Int), .int .i64 sr, .bool wr, .int .i64 val], .int .i64 ((mom : Nat) : Int)] w (Ret W fun v l => v = .int .i64 2 ∧ sep l = regP S [a0, a1, a2, a3] cv ov cs mo * R) := by
  refine Gx.enter (l := [Hp.rec_ S [cv, ov, nowV (mo.map Om.b) a0, nowV (mo.map Om.b) a1, nowV (mo.map Om.b) a2, nowV (mo.map Om.b) a3], Hp.own Fsd 3 cv cs, Hp.own FP 1 ov (mo.map Om.b), Hp.big opH mo, R]) Try.func11 rfl Try.ntmps11 rfl ((regP_open H)) ?_
  refine Gx.know (m' := [(0, ptr S 0), (1, .agg #[.int .i64 3, .int .i64 x, .int .i64 ((i : Nat) : Int), .int .i64 sr, .bool wr, .int .i64 val]), (2, .int .i64 ((mom : Nat) : Int))]) (.cons rfl (.cons rfl (.cons rfl .nil))) ?_
  refine Gx.seq ?_
  refine Gx.region ?_
  refine Gx.eff rfl rfl rfl (eff_box rfl rfl (vs := [.int .i64 3, .int .i64 x, .int .i64 ((i : Nat) : Int), .int .i64 sr, .bool wr, .int .i64 val]) rfl) ?_
  rintro _ _ ⟨b1, rfl, rfl⟩
  refine Gx.val rfl rfl rfl (val_assign rfl rfl) ?_
  refine Gx.done ?_
  refine Gx.thenN ?_
  refine Gx.seq ?_
  refine Gx.seq ?_
  refine Gx.region ?_
  refine Gx.val rfl rfl rfl (Val.cast (val_fieldAddr rfl Try.underlying24 rfl Try.ty3 rfl rfl) (v' := ptr b1 0) rfl) ?_
  refine Gx.val rfl rfl rfl (val_load rfl Try.ty3 rfl rfl (cell_rec (k := 0) rfl rfl)) ?_
  refine Gx.val rfl rfl rfl (Val.cast (val_lss rfl rfl rfl) (v' := .bool false) rfl) ?_
  refine Gx.val rfl rfl rfl (val_move rfl rfl) ?_
  refine Gx.valg rfl rfl rfl rfl rfl (Val.cast (val_fieldAddr rfl Try.underlying24 rfl Try.ty3 rfl rfl) (v' := ptr b1 0) rfl) ?_
  refine Gx.valg rfl rfl rfl rfl rfl (val_load rfl Try.ty3 rfl rfl (cell_rec (k := 0) rfl rfl)) ?_
  refine Gx.valg rfl rfl rfl rfl rfl (Val.cast (val_gtr rfl rfl rfl) (v' := .bool false) rfl) ?_
  refine Gx.val rfl rfl rfl (val_pickF rfl rfl rfl) ?_
  refine Gx.done ?_
  refine Gx.thenN ?_
  refine Gx.f rfl ?_
  refine Gx.skip ?_
  refine Gx.thenN ?_
  refine Gx.seq ?_
  refine Gx.seq ?_
  refine Gx.regionQ Try.mixed (by kernel_rfl) ?_
  refine Gq.val rfl rfl rfl (Val.cast (val_fieldAddr rfl Try.underlying24 rfl Try.ty3 rfl rfl) (v' := ptr b1 0) rfl) ?_
  refine Gq.val rfl rfl rfl (val_load rfl Try.ty3 rfl rfl (cell_rec (k := 0) rfl rfl)) ?_
  refine Gq.val rfl rfl rfl (Val.cast (val_neq rfl rfl rfl) (v' := .bool false) rfl) ?_
  refine Gq.val rfl rfl rfl (val_move rfl rfl) ?_
  refine Gq.skipg rfl rfl rfl rfl rfl rfl ?_
  refine Gq.skipg rfl rfl rfl rfl rfl rfl ?_
  refine Gq.skipg rfl rfl rfl rfl rfl rfl ?_
  refine Gq.skipg rfl rfl rfl rfl rfl rfl ?_
  refine Gq.skipu rfl rfl rfl rfl rfl ?_
  refine Gq.skipu rfl rfl rfl rfl rfl ?_
  refine Gq.skipu rfl rfl rfl rfl rfl ?_
  refine Gq.skipg rfl rfl rfl rfl rfl rfl ?_
  refine Gq.val rfl rfl rfl (val_pickF rfl rfl rfl) ?_
  refine Gq.val rfl rfl rfl (val_move rfl rfl) ?_
  refine Gq.valg rfl rfl rfl rfl rfl (Val.cast (val_fieldAddr rfl Try.underlying24 rfl Try.ty3 rfl rfl) (v' := ptr b1 0) rfl) ?_
  refine Gq.valg rfl rfl rfl rfl rfl (val_load rfl Try.ty3 rfl rfl (cell_rec (k := 0) rfl rfl)) ?_
  refine Gq.valg rfl rfl rfl rfl rfl (Val.cast (val_neq rfl rfl rfl) (v' := .bool true) rfl) ?_
  refine Gq.valg rfl rfl rfl rfl rfl (val_move rfl rfl) ?_
  refine Gq.valg rfl rfl rfl rfl rfl (Val.cast (val_fieldAddr rfl Try.underlying24 rfl Try.ty3 rfl rfl) (v' := ptr b1 2) rfl) ?_
  refine Gq.valg rfl rfl rfl rfl rfl (val_load rfl Try.ty3 rfl rfl (cell_rec (k := 0) rfl rfl)) ?_
  refine Gq.valg rfl rfl rfl rfl rfl (val_lss rfl rfl rfl) ?_
  refine Gq.valg rfl rfl rfl rfl rfl (val_move rfl rfl) ?_
  refine Gq.slot (t := 36) (v := .bool false) (look_decF rfl (by omega)) ?_
  refine Gq.valg rfl rfl rfl rfl rfl (Val.cast (val_fieldAddr rfl Try.underlying24 rfl Try.ty3 rfl rfl) (v' := ptr b1 2) rfl) ?_
  refine Gq.valg rfl rfl rfl rfl rfl (val_load rfl Try.ty3 rfl rfl (cell_rec (k := 0) rfl rfl)) ?_
  refine Gq.valg rfl rfl rfl rfl rfl (val_move rfl rfl) ?_
  refine Gq.valg rfl rfl rfl rfl rfl (val_nilCheck rfl rfl) ?_
  refine Gq.valg rfl rfl rfl rfl rfl (Val.cast (val_fieldAddr rfl Try.underlying47 rfl Try.ty42 rfl rfl) (v' := ptr S 0) rfl) ?_
  refine Gq.valg rfl rfl rfl rfl rfl (val_load rfl Try.ty42 rfl rfl (cell_rec (k := 1) rfl rfl)) ?_
  refine Gq.valg rfl rfl rfl rfl rfl (val_len rfl Try.underlying42 rfl (len_own (k := 2) rfl)) ?_
  refine Gq.valg rfl rfl rfl rfl rfl (val_geq rfl rfl rfl) ?_
  refine Gq.valg rfl rfl rfl rfl rfl (val_pickF rfl rfl rfl) ?_
  refine Gq.valg rfl rfl rfl rfl rfl (val_pickT rfl rfl rfl) ?_
  refine Gq.val rfl rfl rfl (val_pickF rfl rfl rfl) ?_
  refine Gq.done ?_
  refine Gx.thenN ?_
  refine Gx.decF rfl (by omega) ?_
  refine Gx.skip ?_
  refine Gx.thenN ?_
  refine Gx.seq ?_
  refine Gx.seq ?_
  refine Gx.region ?_
  refine Gx.val rfl rfl rfl (Val.cast (val_fieldAddr rfl Try.underlying24 rfl Try.ty3 rfl rfl) (v' := ptr b1 0) rfl) ?_
  refine Gx.val rfl rfl rfl (val_load rfl Try.ty3 rfl rfl (cell_rec (k := 0) rfl rfl)) ?_
  refine Gx.done ?_
  refine Gx.thenN ?_
  refine Gx.block ?_
  refine Gx.seq ?_
  refine Gx.region ?_
  refine Gx.val rfl rfl rfl (Val.cast (val_eql rfl rfl rfl) (v' := .bool false) rfl) ?_
  refine Gx.val rfl rfl rfl (val_assign rfl rfl) ?_
  refine Gx.done ?_
  refine Gx.thenN ?_
  refine Gx.f rfl ?_
  refine Gx.seq ?_
  refine Gx.region ?_
  refine Gx.val rfl rfl rfl (Val.cast (val_eql rfl rfl rfl) (v' := .bool false) rfl) ?_
  refine Gx.val rfl rfl rfl (val_assign rfl rfl) ?_
  refine Gx.done ?_
  refine Gx.thenN ?_
  refine Gx.f rfl ?_
  refine Gx.skip ?_
  refine Gx.blkN ?_
  refine Gx.thenN ?_
  refine Gx.seq ?_
  refine Gx.seq ?_
  refine Gx.regionQ Try.mixed (by kernel_rfl) ?_
  refine Gq.val rfl rfl rfl (Val.cast (val_fieldAddr rfl Try.underlying24 rfl Try.ty3 rfl rfl) (v' := ptr b1 3) rfl) ?_
  refine Gq.val rfl rfl rfl (val_load rfl Try.ty3 rfl rfl (cell_rec (k := 0) rfl rfl)) ?_
  refine Gq.val rfl rfl rfl (val_lss rfl rfl rfl) ?_
  refine Gq.val rfl rfl rfl (val_move rfl rfl) ?_
  refine Gq.cases (t := 73) rfl (fun h2 => ?_) (fun h2 => ?_)
  · refine Gq.skipg rfl rfl rfl rfl rfl rfl ?_
    refine Gq.skipg rfl rfl rfl rfl rfl rfl ?_
    refine Gq.skipg rfl rfl rfl rfl rfl rfl ?_
    refine Gq.skipg rfl rfl rfl rfl rfl rfl ?_
    refine Gq.skipg rfl rfl rfl rfl rfl rfl ?_
    refine Gq.skipg rfl rfl rfl rfl rfl rfl ?_
    refine Gq.skipg rfl rfl rfl rfl rfl rfl ?_
    refine Gq.skipg rfl rfl rfl rfl rfl rfl ?_
    refine Gq.val rfl rfl rfl (val_pickT rfl rfl rfl) ?_
    refine Gq.val rfl rfl rfl (val_move rfl rfl) ?_
    refine Gq.skipg rfl rfl rfl rfl rfl rfl ?_
    refine Gq.skipg rfl rfl rfl rfl rfl rfl ?_
    refine Gq.skipg rfl rfl rfl rfl rfl rfl ?_
    refine Gq.skipg rfl rfl rfl rfl rfl rfl ?_
    refine Gq.skipg rfl rfl rfl rfl rfl rfl ?_
    refine Gq.skipg rfl rfl rfl rfl rfl rfl ?_
    refine Gq.skipg rfl rfl rfl rfl rfl rfl ?_
    refine Gq.skipg rfl rfl rfl rfl rfl rfl ?_
    refine Gq.skipg rfl rfl rfl rfl rfl rfl ?_
    refine Gq.skipg rfl rfl rfl rfl rfl rfl ?_
    refine Gq.skipg rfl rfl rfl rfl rfl rfl ?_
    refine Gq.skipg rfl rfl rfl rfl rfl rfl ?_
    refine Gq.val rfl rfl rfl (val_pickT rfl rfl rfl) ?_
    refine Gq.done ?_
    refine Gx.thenN ?_
    refine Gx.t rfl ?_
    refine Gx.seq ?_
    refine Gx.region ?_
    refine Gx.val rfl rfl rfl (val_assign rfl rfl) ?_
    refine Gx.done ?_
    refine Gx.thenN ?_
    refine Gx.ret ?_
    refine Gx.thenR ?_
    refine Gx.drop 0 rfl ?_
    refine Gx.ret1 Try.results11 rfl ?_
    exact ⟨rfl, regP_shut⟩
  · refine Gq.valg rfl rfl rfl rfl rfl (Val.cast (val_fieldAddr rfl Try.underlying24 rfl Try.ty3 rfl rfl) (v' := ptr b1 3) rfl) ?_
    refine Gq.valg rfl rfl rfl rfl rfl (val_load rfl Try.ty3 rfl rfl (cell_rec (k := 0) rfl rfl)) ?_
    refine Gq.valg rfl rfl rfl rfl rfl (val_move rfl rfl) ?_
    refine Gq.valg rfl rfl rfl rfl rfl (val_nilCheck rfl rfl) ?_
    refine Gq.valg rfl rfl rfl rfl rfl (Val.cast (val_fieldAddr rfl Try.underlying47 rfl Try.ty43 rfl rfl) (v' := ptr S 1) rfl) ?_
    refine Gq.valg rfl rfl rfl rfl rfl (val_load rfl Try.ty43 rfl rfl (cell_rec (k := 1) rfl rfl)) ?_
    refine Gq.valg rfl rfl rfl rfl rfl (val_len rfl Try.underlying43 rfl (len_own (k := 3) rfl)) ?_
    refine Gq.valg rfl rfl rfl rfl rfl (val_geq rfl rfl rfl) ?_
    refine Gq.val rfl rfl rfl (val_pickF rfl rfl rfl) ?_
    refine Gq.val rfl rfl rfl (val_move rfl rfl) ?_
    refine Gq.slot (t := 83) (v := .bool true) (look_decT rfl (by rw [List.length_map]; omega)) ?_
    refine Gq.skipg rfl rfl rfl rfl rfl rfl ?_
    refine Gq.skipg rfl rfl rfl rfl rfl rfl ?_
    refine Gq.skipg rfl rfl rfl rfl rfl rfl ?_
    refine Gq.skipg rfl rfl rfl rfl rfl rfl ?_
    refine Gq.skipg rfl rfl rfl rfl rfl rfl ?_
    refine Gq.skipg rfl rfl rfl rfl rfl rfl ?_
    refine Gq.skipg rfl rfl rfl rfl rfl rfl ?_
    refine Gq.skipg rfl rfl rfl rfl rfl rfl ?_
    refine Gq.skipg rfl rfl rfl rfl rfl rfl ?_
    refine Gq.skipg rfl rfl rfl rfl rfl rfl ?_
    refine Gq.skipg rfl rfl rfl rfl rfl rfl ?_
    refine Gq.skipg rfl rfl rfl rfl rfl rfl ?_
    refine Gq.val rfl rfl rfl (val_pickT rfl rfl rfl) ?_
    refine Gq.done ?_
    refine Gx.thenN ?_
    refine Gx.t rfl ?_
    refine Gx.seq ?_
    refine Gx.region ?_
    refine Gx.val rfl rfl rfl (val_assign rfl rfl) ?_
    refine Gx.done ?_
    refine Gx.thenN ?_
    refine Gx.ret ?_
    refine Gx.thenR ?_
    refine Gx.drop 0 rfl ?_
    refine Gx.ret1 Try.results11 rfl ?_
    exact ⟨rfl, regP_shut⟩

theorem late_no {W w : World} {S mom : Nat} {a0 a1 a2 a3 : Option Nat} {cv ov : Value} {cs : List Sd} {mo : List Om} {R : Hp} {x val : Int} {wr : Bool} {i k : Nat} {m : Om} (hk : mo[k]? = some m) (hi : i < cs.length) (hsec : m.o.sec = false) (H : Sat W w (regP S [a0, a1, a2, a3] cv ov cs mo * R)) :
    Calls Try.prog 11 #[ptr S 0, .agg #[.int .i64 3, .int .i64 x, .int .i64 ((i : Nat) : Int), .int .i64 ((k : Nat) : Int), .bool wr, .int .i64 val], .int .i64 ((mom : Nat) : Int)] w (Ret W fun v l => v = .int .i64 2 ∧ sep l = regP S [a0, a1, a2, a3] cv ov cs mo * R) := by
  obtain ⟨R0, h1, h2⟩ := Hp.big_focus opH mo k m hk
  have hkb : (mo.map Om.b)[k]? = some m.b := by rw [List.getElem?_map, hk]; rfl
  have hkl := (List.getElem?_eq_some_iff.1 hk).1
  refine Gx.enter (l := [Hp.rec_ S [cv, ov, nowV (mo.map Om.b) a0, nowV (mo.map Om.b) a1, nowV (mo.map Om.b) a2, nowV (mo.map Om.b) a3], Hp.own Fsd 3 cv cs, Hp.own FP 1 ov (mo.map Om.b), Hp.rec_ m.b [ptr m.b2 0, .int .i64 ((m.o.best.n : Nat) : Int), .int .i64 ((m.o.best.who : Nat) : Int), .int .i64 m.o.best.val, .bool m.o.sec, .int .u32 (((mk m.o.seen) : Nat) : Int), .int .i64 ((m.o.many : Nat) : Int)], Hp.rec_ m.b2 [.int .i64 ((m.o.who : Nat) : Int), .int .i64 0, .bool m.o.wr, .int .i64 m.o.val, .int .i64 ((m.o.frm : Nat) : Int), .int .i64 m.o.to], R0, R]) Try.func11 rfl Try.ntmps11 rfl ((H.cast (reg_eq (k := k) h1).symm)) ?_
  refine Gx.know (m' := [(0, ptr S 0), (1, .agg #[.int .i64 3, .int .i64 x, .int .i64 ((i : Nat) : Int), .int .i64 ((k : Nat) : Int), .bool wr, .int .i64 val]), (2, .int .i64 ((mom : Nat) : Int))]) (.cons rfl (.cons rfl (.cons rfl .nil))) ?_
  refine Gx.seq ?_
  refine Gx.region ?_
  refine Gx.eff rfl rfl rfl (eff_box rfl rfl (vs := [.int .i64 3, .int .i64 x, .int .i64 ((i : Nat) : Int), .int .i64 ((k : Nat) : Int), .bool wr, .int .i64 val]) rfl) ?_
  rintro _ _ ⟨b1, rfl, rfl⟩
  refine Gx.val rfl rfl rfl (val_assign rfl rfl) ?_
  refine Gx.done ?_
  refine Gx.thenN ?_
  refine Gx.seq ?_
  refine Gx.seq ?_
  refine Gx.region ?_
  refine Gx.val rfl rfl rfl (Val.cast (val_fieldAddr rfl Try.underlying24 rfl Try.ty3 rfl rfl) (v' := ptr b1 0) rfl) ?_
  refine Gx.val rfl rfl rfl (val_load rfl Try.ty3 rfl rfl (cell_rec (k := 0) rfl rfl)) ?_
  refine Gx.val rfl rfl rfl (Val.cast (val_lss rfl rfl rfl) (v' := .bool false) rfl) ?_
  refine Gx.val rfl rfl rfl (val_move rfl rfl) ?_
  refine Gx.valg rfl rfl rfl rfl rfl (Val.cast (val_fieldAddr rfl Try.underlying24 rfl Try.ty3 rfl rfl) (v' := ptr b1 0) rfl) ?_
  refine Gx.valg rfl rfl rfl rfl rfl (val_load rfl Try.ty3 rfl rfl (cell_rec (k := 0) rfl rfl)) ?_
  refine Gx.valg rfl rfl rfl rfl rfl (Val.cast (val_gtr rfl rfl rfl) (v' := .bool false) rfl) ?_
  refine Gx.val rfl rfl rfl (val_pickF rfl rfl rfl) ?_
  refine Gx.done ?_
  refine Gx.thenN ?_
  refine Gx.f rfl ?_
  refine Gx.skip ?_
  refine Gx.thenN ?_
  refine Gx.seq ?_
  refine Gx.seq ?_
  refine Gx.regionQ Try.mixed (by kernel_rfl) ?_
  refine Gq.val rfl rfl rfl (Val.cast (val_fieldAddr rfl Try.underlying24 rfl Try.ty3 rfl rfl) (v' := ptr b1 0) rfl) ?_
  refine Gq.val rfl rfl rfl (val_load rfl Try.ty3 rfl rfl (cell_rec (k := 0) rfl rfl)) ?_
  refine Gq.val rfl rfl rfl (Val.cast (val_neq rfl rfl rfl) (v' := .bool false) rfl) ?_
  refine Gq.val rfl rfl rfl (val_move rfl rfl) ?_
  refine Gq.skipg rfl rfl rfl rfl rfl rfl ?_
  refine Gq.skipg rfl rfl rfl rfl rfl rfl ?_
  refine Gq.skipg rfl rfl rfl rfl rfl rfl ?_
  refine Gq.skipg rfl rfl rfl rfl rfl rfl ?_
  refine Gq.skipu rfl rfl rfl rfl rfl ?_
  refine Gq.skipu rfl rfl rfl rfl rfl ?_
  refine Gq.skipu rfl rfl rfl rfl rfl ?_
  refine Gq.skipg rfl rfl rfl rfl rfl rfl ?_
  refine Gq.val rfl rfl rfl (val_pickF rfl rfl rfl) ?_
  refine Gq.val rfl rfl rfl (val_move rfl rfl) ?_
  refine Gq.valg rfl rfl rfl rfl rfl (Val.cast (val_fieldAddr rfl Try.underlying24 rfl Try.ty3 rfl rfl) (v' := ptr b1 0) rfl) ?_
  refine Gq.valg rfl rfl rfl rfl rfl (val_load rfl Try.ty3 rfl rfl (cell_rec (k := 0) rfl rfl)) ?_
  refine Gq.valg rfl rfl rfl rfl rfl (Val.cast (val_neq rfl rfl rfl) (v' := .bool true) rfl) ?_
  refine Gq.valg rfl rfl rfl rfl rfl (val_move rfl rfl) ?_
  refine Gq.valg rfl rfl rfl rfl rfl (Val.cast (val_fieldAddr rfl Try.underlying24 rfl Try.ty3 rfl rfl) (v' := ptr b1 2) rfl) ?_
  refine Gq.valg rfl rfl rfl rfl rfl (val_load rfl Try.ty3 rfl rfl (cell_rec (k := 0) rfl rfl)) ?_
  refine Gq.valg rfl rfl rfl rfl rfl (val_lss rfl rfl rfl) ?_
  refine Gq.valg rfl rfl rfl rfl rfl (val_move rfl rfl) ?_
  refine Gq.slot (t := 36) (v := .bool false) (look_decF rfl (by omega)) ?_
  refine Gq.valg rfl rfl rfl rfl rfl (Val.cast (val_fieldAddr rfl Try.underlying24 rfl Try.ty3 rfl rfl) (v' := ptr b1 2) rfl) ?_
  refine Gq.valg rfl rfl rfl rfl rfl (val_load rfl Try.ty3 rfl rfl (cell_rec (k := 0) rfl rfl)) ?_
  refine Gq.valg rfl rfl rfl rfl rfl (val_move rfl rfl) ?_
  refine Gq.valg rfl rfl rfl rfl rfl (val_nilCheck rfl rfl) ?_
  refine Gq.valg rfl rfl rfl rfl rfl (Val.cast (val_fieldAddr rfl Try.underlying47 rfl Try.ty42 rfl rfl) (v' := ptr S 0) rfl) ?_
  refine Gq.valg rfl rfl rfl rfl rfl (val_load rfl Try.ty42 rfl rfl (cell_rec (k := 1) rfl rfl)) ?_
  refine Gq.valg rfl rfl rfl rfl rfl (val_len rfl Try.underlying42 rfl (len_own (k := 2) rfl)) ?_
  refine Gq.valg rfl rfl rfl rfl rfl (val_geq rfl rfl rfl) ?_
  refine Gq.valg rfl rfl rfl rfl rfl (val_pickF rfl rfl rfl) ?_
  refine Gq.valg rfl rfl rfl rfl rfl (val_pickT rfl rfl rfl) ?_
  refine Gq.val rfl rfl rfl (val_pickF rfl rfl rfl) ?_
  refine Gq.done ?_
  refine Gx.thenN ?_
  refine Gx.decF rfl (by omega) ?_
  refine Gx.skip ?_
  refine Gx.thenN ?_
  refine Gx.seq ?_
  refine Gx.seq ?_
  refine Gx.region ?_
  refine Gx.val rfl rfl rfl (Val.cast (val_fieldAddr rfl Try.underlying24 rfl Try.ty3 rfl rfl) (v' := ptr b1 0) rfl) ?_
  refine Gx.val rfl rfl rfl (val_load rfl Try.ty3 rfl rfl (cell_rec (k := 0) rfl rfl)) ?_
  refine Gx.done ?_
  refine Gx.thenN ?_
  refine Gx.block ?_
  refine Gx.seq ?_
  refine Gx.region ?_
  refine Gx.val rfl rfl rfl (Val.cast (val_eql rfl rfl rfl) (v' := .bool false) rfl) ?_
  refine Gx.val rfl rfl rfl (val_assign rfl rfl) ?_
  refine Gx.done ?_
  refine Gx.thenN ?_
  refine Gx.f rfl ?_
  refine Gx.seq ?_
  refine Gx.region ?_
  refine Gx.val rfl rfl rfl (Val.cast (val_eql rfl rfl rfl) (v' := .bool false) rfl) ?_
  refine Gx.val rfl rfl rfl (val_assign rfl rfl) ?_
  refine Gx.done ?_
  refine Gx.thenN ?_
  refine Gx.f rfl ?_
  refine Gx.skip ?_
  refine Gx.blkN ?_
  refine Gx.thenN ?_
  refine Gx.seq ?_
  refine Gx.seq ?_
  refine Gx.regionQ Try.mixed (by kernel_rfl) ?_
  refine Gq.val rfl rfl rfl (Val.cast (val_fieldAddr rfl Try.underlying24 rfl Try.ty3 rfl rfl) (v' := ptr b1 3) rfl) ?_
  refine Gq.val rfl rfl rfl (val_load rfl Try.ty3 rfl rfl (cell_rec (k := 0) rfl rfl)) ?_
  refine Gq.val rfl rfl rfl (val_lss rfl rfl rfl) ?_
  refine Gq.val rfl rfl rfl (val_move rfl rfl) ?_
  refine Gq.slot (t := 73) (v := .bool false) (look_decF rfl (by omega)) ?_
  refine Gq.valg rfl rfl rfl rfl rfl (Val.cast (val_fieldAddr rfl Try.underlying24 rfl Try.ty3 rfl rfl) (v' := ptr b1 3) rfl) ?_
  refine Gq.valg rfl rfl rfl rfl rfl (val_load rfl Try.ty3 rfl rfl (cell_rec (k := 0) rfl rfl)) ?_
  refine Gq.valg rfl rfl rfl rfl rfl (val_move rfl rfl) ?_
  refine Gq.valg rfl rfl rfl rfl rfl (val_nilCheck rfl rfl) ?_
  refine Gq.valg rfl rfl rfl rfl rfl (Val.cast (val_fieldAddr rfl Try.underlying47 rfl Try.ty43 rfl rfl) (v' := ptr S 1) rfl) ?_
  refine Gq.valg rfl rfl rfl rfl rfl (val_load rfl Try.ty43 rfl rfl (cell_rec (k := 1) rfl rfl)) ?_
  refine Gq.valg rfl rfl rfl rfl rfl (val_len rfl Try.underlying43 rfl (len_own (k := 3) rfl)) ?_
  refine Gq.valg rfl rfl rfl rfl rfl (val_geq rfl rfl rfl) ?_
  refine Gq.val rfl rfl rfl (val_pickF rfl rfl rfl) ?_
  refine Gq.val rfl rfl rfl (val_move rfl rfl) ?_
  refine Gq.slot (t := 83) (v := .bool false) (look_decF rfl (by rw [List.length_map]; omega)) ?_
  refine Gq.valg rfl rfl rfl rfl rfl (val_move rfl rfl) ?_
  refine Gq.valg rfl rfl rfl rfl rfl (val_nilCheck rfl rfl) ?_
  refine Gq.valg rfl rfl rfl rfl rfl (Val.cast (val_fieldAddr rfl Try.underlying47 rfl Try.ty43 rfl rfl) (v' := ptr S 1) rfl) ?_
  refine Gq.valg rfl rfl rfl rfl rfl (val_load rfl Try.ty43 rfl rfl (cell_rec (k := 1) rfl rfl)) ?_
  refine Gq.valg rfl rfl rfl rfl rfl (Val.cast (val_fieldAddr rfl Try.underlying24 rfl Try.ty3 rfl rfl) (v' := ptr b1 3) rfl) ?_
  refine Gq.valg rfl rfl rfl rfl rfl (val_load rfl Try.ty3 rfl rfl (cell_rec (k := 0) rfl rfl)) ?_
  refine Gq.valg rfl rfl rfl rfl rfl (val_ixa rfl Try.underlying43 Try.ty44 rfl rfl (j := k) (rfl) (reach_own (k := 3) rfl hkb)) ?_
  refine Gq.valg rfl rfl rfl rfl rfl (val_load rfl Try.ty44 rfl rfl (cell_own (i := 0) (k := 3) rfl hkb rfl)) ?_
  refine Gq.valg rfl rfl rfl rfl rfl (val_nilCheck rfl rfl) ?_
  refine Gq.valg rfl rfl rfl rfl rfl (Val.cast (val_fieldAddr rfl Try.underlying54 rfl Try.ty4 rfl rfl) (v' := ptr m.b 4) rfl) ?_
  refine Gq.valg rfl rfl rfl rfl rfl (val_load rfl Try.ty4 rfl rfl (cell_rec (k := 4) rfl rfl)) ?_
  refine Gq.valg rfl rfl rfl rfl rfl (val_not rfl rfl) ?_
  refine Gq.val rfl rfl rfl (val_pickF rfl rfl rfl) ?_
  refine Gq.done ?_
  refine Gx.thenN ?_
  refine Gx.boolT rfl (by simp [hsec]) ?_
  refine Gx.seq ?_
  refine Gx.region ?_
  refine Gx.val rfl rfl rfl (val_assign rfl rfl) ?_
  refine Gx.done ?_
  refine Gx.thenN ?_
  refine Gx.ret ?_
  refine Gx.thenR ?_
  refine Gx.drop 0 rfl ?_
  refine Gx.ret1 Try.results11 rfl ?_
  exact ⟨rfl, reg_eq (k := k) h1⟩

theorem late_yes {W w : World} {S mom : Nat} {a0 a1 a2 a3 : Option Nat} {cv ov : Value} {cs : List Sd} {mo : List Om} {R : Hp} {x val : Int} {wr : Bool} {i k : Nat} {m : Om} (hk : mo[k]? = some m) (hi : i < cs.length) (hsec : m.o.sec = true) (H : Sat W w (regP S [a0, a1, a2, a3] cv ov cs mo * R)) :
    Calls Try.prog 11 #[ptr S 0, .agg #[.int .i64 3, .int .i64 x, .int .i64 ((i : Nat) : Int), .int .i64 ((k : Nat) : Int), .bool wr, .int .i64 val], .int .i64 ((mom : Nat) : Int)] w (Ret W fun v l => v = .int .i64 0 ∧ sep l = regP S [a0, a1, a2, a3] cv ov (storeR cs i m.o.best) mo * R) := by
  obtain ⟨R0, h1, h2⟩ := Hp.big_focus opH mo k m hk
  have hkb : (mo.map Om.b)[k]? = some m.b := by rw [List.getElem?_map, hk]; rfl
  have hkl := (List.getElem?_eq_some_iff.1 hk).1
  refine Gx.enter (l := [Hp.rec_ S [cv, ov, nowV (mo.map Om.b) a0, nowV (mo.map Om.b) a1, nowV (mo.map Om.b) a2, nowV (mo.map Om.b) a3], Hp.own Fsd 3 cv cs, Hp.own FP 1 ov (mo.map Om.b), Hp.rec_ m.b [ptr m.b2 0, .int .i64 ((m.o.best.n : Nat) : Int), .int .i64 ((m.o.best.who : Nat) : Int), .int .i64 m.o.best.val, .bool m.o.sec, .int .u32 (((mk m.o.seen) : Nat) : Int), .int .i64 ((m.o.many : Nat) : Int)], Hp.rec_ m.b2 [.int .i64 ((m.o.who : Nat) : Int), .int .i64 0, .bool m.o.wr, .int .i64 m.o.val, .int .i64 ((m.o.frm : Nat) : Int), .int .i64 m.o.to], R0, R]) Try.func11 rfl Try.ntmps11 rfl ((H.cast (reg_eq (k := k) h1).symm)) ?_
  refine Gx.know (m' := [(0, ptr S 0), (1, .agg #[.int .i64 3, .int .i64 x, .int .i64 ((i : Nat) : Int), .int .i64 ((k : Nat) : Int), .bool wr, .int .i64 val]), (2, .int .i64 ((mom : Nat) : Int))]) (.cons rfl (.cons rfl (.cons rfl .nil))) ?_
  refine Gx.seq ?_
  refine Gx.region ?_
  refine Gx.eff rfl rfl rfl (eff_box rfl rfl (vs := [.int .i64 3, .int .i64 x, .int .i64 ((i : Nat) : Int), .int .i64 ((k : Nat) : Int), .bool wr, .int .i64 val]) rfl) ?_
  rintro _ _ ⟨b1, rfl, rfl⟩
  refine Gx.val rfl rfl rfl (val_assign rfl rfl) ?_
  refine Gx.done ?_
  refine Gx.thenN ?_
  refine Gx.seq ?_
  refine Gx.seq ?_
  refine Gx.region ?_
  refine Gx.val rfl rfl rfl (Val.cast (val_fieldAddr rfl Try.underlying24 rfl Try.ty3 rfl rfl) (v' := ptr b1 0) rfl) ?_
  refine Gx.val rfl rfl rfl (val_load rfl Try.ty3 rfl rfl (cell_rec (k := 0) rfl rfl)) ?_
  refine Gx.val rfl rfl rfl (Val.cast (val_lss rfl rfl rfl) (v' := .bool false) rfl) ?_
  refine Gx.val rfl rfl rfl (val_move rfl rfl) ?_
  refine Gx.valg rfl rfl rfl rfl rfl (Val.cast (val_fieldAddr rfl Try.underlying24 rfl Try.ty3 rfl rfl) (v' := ptr b1 0) rfl) ?_
  refine Gx.valg rfl rfl rfl rfl rfl (val_load rfl Try.ty3 rfl rfl (cell_rec (k := 0) rfl rfl)) ?_
  refine Gx.valg rfl rfl rfl rfl rfl (Val.cast (val_gtr rfl rfl rfl) (v' := .bool false) rfl) ?_
  refine Gx.val rfl rfl rfl (val_pickF rfl rfl rfl) ?_
  refine Gx.done ?_
  refine Gx.thenN ?_
  refine Gx.f rfl ?_
  refine Gx.skip ?_
  refine Gx.thenN ?_
  refine Gx.seq ?_
  refine Gx.seq ?_
  refine Gx.regionQ Try.mixed (by kernel_rfl) ?_
  refine Gq.val rfl rfl rfl (Val.cast (val_fieldAddr rfl Try.underlying24 rfl Try.ty3 rfl rfl) (v' := ptr b1 0) rfl) ?_
  refine Gq.val rfl rfl rfl (val_load rfl Try.ty3 rfl rfl (cell_rec (k := 0) rfl rfl)) ?_
  refine Gq.val rfl rfl rfl (Val.cast (val_neq rfl rfl rfl) (v' := .bool false) rfl) ?_
  refine Gq.val rfl rfl rfl (val_move rfl rfl) ?_
  refine Gq.skipg rfl rfl rfl rfl rfl rfl ?_
  refine Gq.skipg rfl rfl rfl rfl rfl rfl ?_
  refine Gq.skipg rfl rfl rfl rfl rfl rfl ?_
  refine Gq.skipg rfl rfl rfl rfl rfl rfl ?_
  refine Gq.skipu rfl rfl rfl rfl rfl ?_
  refine Gq.skipu rfl rfl rfl rfl rfl ?_
  refine Gq.skipu rfl rfl rfl rfl rfl ?_
  refine Gq.skipg rfl rfl rfl rfl rfl rfl ?_
  refine Gq.val rfl rfl rfl (val_pickF rfl rfl rfl) ?_
  refine Gq.val rfl rfl rfl (val_move rfl rfl) ?_
  refine Gq.valg rfl rfl rfl rfl rfl (Val.cast (val_fieldAddr rfl Try.underlying24 rfl Try.ty3 rfl rfl) (v' := ptr b1 0) rfl) ?_
  refine Gq.valg rfl rfl rfl rfl rfl (val_load rfl Try.ty3 rfl rfl (cell_rec (k := 0) rfl rfl)) ?_
  refine Gq.valg rfl rfl rfl rfl rfl (Val.cast (val_neq rfl rfl rfl) (v' := .bool true) rfl) ?_
  refine Gq.valg rfl rfl rfl rfl rfl (val_move rfl rfl) ?_
  refine Gq.valg rfl rfl rfl rfl rfl (Val.cast (val_fieldAddr rfl Try.underlying24 rfl Try.ty3 rfl rfl) (v' := ptr b1 2) rfl) ?_
  refine Gq.valg rfl rfl rfl rfl rfl (val_load rfl Try.ty3 rfl rfl (cell_rec (k := 0) rfl rfl)) ?_
  refine Gq.valg rfl rfl rfl rfl rfl (val_lss rfl rfl rfl) ?_
  refine Gq.valg rfl rfl rfl rfl rfl (val_move rfl rfl) ?_
  refine Gq.slot (t := 36) (v := .bool false) (look_decF rfl (by omega)) ?_
  refine Gq.valg rfl rfl rfl rfl rfl (Val.cast (val_fieldAddr rfl Try.underlying24 rfl Try.ty3 rfl rfl) (v' := ptr b1 2) rfl) ?_
  refine Gq.valg rfl rfl rfl rfl rfl (val_load rfl Try.ty3 rfl rfl (cell_rec (k := 0) rfl rfl)) ?_
  refine Gq.valg rfl rfl rfl rfl rfl (val_move rfl rfl) ?_
  refine Gq.valg rfl rfl rfl rfl rfl (val_nilCheck rfl rfl) ?_
  refine Gq.valg rfl rfl rfl rfl rfl (Val.cast (val_fieldAddr rfl Try.underlying47 rfl Try.ty42 rfl rfl) (v' := ptr S 0) rfl) ?_
  refine Gq.valg rfl rfl rfl rfl rfl (val_load rfl Try.ty42 rfl rfl (cell_rec (k := 1) rfl rfl)) ?_
  refine Gq.valg rfl rfl rfl rfl rfl (val_len rfl Try.underlying42 rfl (len_own (k := 2) rfl)) ?_
  refine Gq.valg rfl rfl rfl rfl rfl (val_geq rfl rfl rfl) ?_
  refine Gq.valg rfl rfl rfl rfl rfl (val_pickF rfl rfl rfl) ?_
  refine Gq.valg rfl rfl rfl rfl rfl (val_pickT rfl rfl rfl) ?_
  refine Gq.val rfl rfl rfl (val_pickF rfl rfl rfl) ?_
  refine Gq.done ?_
  refine Gx.thenN ?_
  refine Gx.decF rfl (by omega) ?_
  refine Gx.skip ?_
  refine Gx.thenN ?_
  refine Gx.seq ?_
  refine Gx.seq ?_
  refine Gx.region ?_
  refine Gx.val rfl rfl rfl (Val.cast (val_fieldAddr rfl Try.underlying24 rfl Try.ty3 rfl rfl) (v' := ptr b1 0) rfl) ?_
  refine Gx.val rfl rfl rfl (val_load rfl Try.ty3 rfl rfl (cell_rec (k := 0) rfl rfl)) ?_
  refine Gx.done ?_
  refine Gx.thenN ?_
  refine Gx.block ?_
  refine Gx.seq ?_
  refine Gx.region ?_
  refine Gx.val rfl rfl rfl (Val.cast (val_eql rfl rfl rfl) (v' := .bool false) rfl) ?_
  refine Gx.val rfl rfl rfl (val_assign rfl rfl) ?_
  refine Gx.done ?_
  refine Gx.thenN ?_
  refine Gx.f rfl ?_
  refine Gx.seq ?_
  refine Gx.region ?_
  refine Gx.val rfl rfl rfl (Val.cast (val_eql rfl rfl rfl) (v' := .bool false) rfl) ?_
  refine Gx.val rfl rfl rfl (val_assign rfl rfl) ?_
  refine Gx.done ?_
  refine Gx.thenN ?_
  refine Gx.f rfl ?_
  refine Gx.skip ?_
  refine Gx.blkN ?_
  refine Gx.thenN ?_
  refine Gx.seq ?_
  refine Gx.seq ?_
  refine Gx.regionQ Try.mixed (by kernel_rfl) ?_
  refine Gq.val rfl rfl rfl (Val.cast (val_fieldAddr rfl Try.underlying24 rfl Try.ty3 rfl rfl) (v' := ptr b1 3) rfl) ?_
  refine Gq.val rfl rfl rfl (val_load rfl Try.ty3 rfl rfl (cell_rec (k := 0) rfl rfl)) ?_
  refine Gq.val rfl rfl rfl (val_lss rfl rfl rfl) ?_
  refine Gq.val rfl rfl rfl (val_move rfl rfl) ?_
  refine Gq.slot (t := 73) (v := .bool false) (look_decF rfl (by omega)) ?_
  refine Gq.valg rfl rfl rfl rfl rfl (Val.cast (val_fieldAddr rfl Try.underlying24 rfl Try.ty3 rfl rfl) (v' := ptr b1 3) rfl) ?_
  refine Gq.valg rfl rfl rfl rfl rfl (val_load rfl Try.ty3 rfl rfl (cell_rec (k := 0) rfl rfl)) ?_
  refine Gq.valg rfl rfl rfl rfl rfl (val_move rfl rfl) ?_
  refine Gq.valg rfl rfl rfl rfl rfl (val_nilCheck rfl rfl) ?_
  refine Gq.valg rfl rfl rfl rfl rfl (Val.cast (val_fieldAddr rfl Try.underlying47 rfl Try.ty43 rfl rfl) (v' := ptr S 1) rfl) ?_
  refine Gq.valg rfl rfl rfl rfl rfl (val_load rfl Try.ty43 rfl rfl (cell_rec (k := 1) rfl rfl)) ?_
  refine Gq.valg rfl rfl rfl rfl rfl (val_len rfl Try.underlying43 rfl (len_own (k := 3) rfl)) ?_
  refine Gq.valg rfl rfl rfl rfl rfl (val_geq rfl rfl rfl) ?_
  refine Gq.val rfl rfl rfl (val_pickF rfl rfl rfl) ?_
  refine Gq.val rfl rfl rfl (val_move rfl rfl) ?_
  refine Gq.slot (t := 83) (v := .bool false) (look_decF rfl (by rw [List.length_map]; omega)) ?_
  refine Gq.valg rfl rfl rfl rfl rfl (val_move rfl rfl) ?_
  refine Gq.valg rfl rfl rfl rfl rfl (val_nilCheck rfl rfl) ?_
  refine Gq.valg rfl rfl rfl rfl rfl (Val.cast (val_fieldAddr rfl Try.underlying47 rfl Try.ty43 rfl rfl) (v' := ptr S 1) rfl) ?_
  refine Gq.valg rfl rfl rfl rfl rfl (val_load rfl Try.ty43 rfl rfl (cell_rec (k := 1) rfl rfl)) ?_
  refine Gq.valg rfl rfl rfl rfl rfl (Val.cast (val_fieldAddr rfl Try.underlying24 rfl Try.ty3 rfl rfl) (v' := ptr b1 3) rfl) ?_
  refine Gq.valg rfl rfl rfl rfl rfl (val_load rfl Try.ty3 rfl rfl (cell_rec (k := 0) rfl rfl)) ?_
  refine Gq.valg rfl rfl rfl rfl rfl (val_ixa rfl Try.underlying43 Try.ty44 rfl rfl (j := k) (rfl) (reach_own (k := 3) rfl hkb)) ?_
  refine Gq.valg rfl rfl rfl rfl rfl (val_load rfl Try.ty44 rfl rfl (cell_own (i := 0) (k := 3) rfl hkb rfl)) ?_
  refine Gq.valg rfl rfl rfl rfl rfl (val_nilCheck rfl rfl) ?_
  refine Gq.valg rfl rfl rfl rfl rfl (Val.cast (val_fieldAddr rfl Try.underlying54 rfl Try.ty4 rfl rfl) (v' := ptr m.b 4) rfl) ?_
  refine Gq.valg rfl rfl rfl rfl rfl (val_load rfl Try.ty4 rfl rfl (cell_rec (k := 4) rfl rfl)) ?_
  refine Gq.valg rfl rfl rfl rfl rfl (val_not rfl rfl) ?_
  refine Gq.val rfl rfl rfl (val_pickF rfl rfl rfl) ?_
  refine Gq.done ?_
  refine Gx.thenN ?_
  refine Gx.boolF rfl (by simp [hsec]) ?_
  refine Gx.skip ?_
  refine Gx.thenN ?_
  refine Gx.seq ?_
  refine Gx.regionO (fun j => false) 14 [0, 1, 2, 3, 4, 5, 6, 7, 8, 9, 10, 11, 12, 13] (fun _ => [Hp.rec_ b1 [.int .i64 3, .int .i64 x, .int .i64 ((i : Nat) : Int), .int .i64 ((k : Nat) : Int), .bool wr, .int .i64 val], Hp.rec_ S [cv, ov, nowV (mo.map Om.b) a0, nowV (mo.map Om.b) a1, nowV (mo.map Om.b) a2, nowV (mo.map Om.b) a3], Hp.own Fsd 3 cv cs, Hp.own FP 1 ov (mo.map Om.b), Hp.rec_ m.b [ptr m.b2 0, .int .i64 ((m.o.best.n : Nat) : Int), .int .i64 ((m.o.best.who : Nat) : Int), .int .i64 m.o.best.val, .bool m.o.sec, .int .u32 (((mk m.o.seen) : Nat) : Int), .int .i64 ((m.o.many : Nat) : Int)], Hp.rec_ m.b2 [.int .i64 ((m.o.who : Nat) : Int), .int .i64 0, .bool m.o.wr, .int .i64 m.o.val, .int .i64 ((m.o.frm : Nat) : Int), .int .i64 m.o.to], R0, R]) Try.mixed (by kernel_rfl) rfl ?_
  refine Gw.val rfl rfl rfl rfl rfl (fun us => val_move rfl rfl) ?_
  refine Gw.val rfl rfl rfl rfl rfl (fun us => Val.cast (val_fieldAddr rfl Try.underlying24 rfl Try.ty3 rfl rfl) (v' := ptr b1 2) rfl) ?_
  refine Gw.val0 rfl rfl rfl (by kernel_rfl) rfl rfl (val_load rfl Try.ty3 rfl rfl (cell_rec (k := 0) rfl rfl)) ?_
  refine Gw.val rfl rfl rfl rfl rfl (fun us => val_move rfl rfl) ?_
  refine Gw.val rfl rfl rfl rfl rfl (fun us => val_nilCheck rfl rfl) ?_
  refine Gw.val rfl rfl rfl rfl rfl (fun us => Val.cast (val_fieldAddr rfl Try.underlying47 rfl Try.ty43 rfl rfl) (v' := ptr S 1) rfl) ?_
  refine Gw.val0 rfl rfl rfl (by kernel_rfl) rfl rfl (val_load rfl Try.ty43 rfl rfl (cell_rec (k := 1) rfl rfl)) ?_
  refine Gw.val rfl rfl rfl rfl rfl (fun us => Val.cast (val_fieldAddr rfl Try.underlying24 rfl Try.ty3 rfl rfl) (v' := ptr b1 3) rfl) ?_
  refine Gw.val0 rfl rfl rfl (by kernel_rfl) rfl rfl (val_load rfl Try.ty3 rfl rfl (cell_rec (k := 0) rfl rfl)) ?_
  refine Gw.val0 rfl rfl rfl (by kernel_rfl) rfl rfl (val_ixa rfl Try.underlying43 Try.ty44 rfl rfl (j := k) (rfl) (reach_own (k := 3) rfl hkb)) ?_
  refine Gw.val0 rfl rfl rfl (by kernel_rfl) rfl rfl (val_load rfl Try.ty44 rfl rfl (cell_own (i := 0) (k := 3) rfl hkb rfl)) ?_
  refine Gw.val rfl rfl rfl rfl rfl (fun us => val_nilCheck rfl rfl) ?_
  refine Gw.val rfl rfl rfl rfl rfl (fun us => Val.cast (val_fieldAddr rfl Try.underlying54 rfl Try.ty51 rfl rfl) (v' := ptr m.b 1) rfl) ?_
  refine Gw.val0 rfl rfl rfl (by kernel_rfl) rfl rfl (Val.cast (val_loadA rfl Try.ty51 rfl rfl (us := [.int .i64 ((m.o.best.n : Nat) : Int), .int .i64 ((m.o.best.who : Nat) : Int), .int .i64 m.o.best.val]) rfl (cells_rec_at (k := 4) (i := 1) (n := 3) rfl rfl)) (v' := .agg #[.int .i64 ((m.o.best.n : Nat) : Int), .int .i64 ((m.o.best.who : Nat) : Int), .int .i64 m.o.best.val]) rfl) ?_
  refine Gw.done ?_
  refine Gx.norm (l' := [Hp.rec_ b1 [.int .i64 3, .int .i64 x, .int .i64 ((i : Nat) : Int), .int .i64 ((k : Nat) : Int), .bool wr, .int .i64 val], Hp.rec_ S [cv, ov, nowV (mo.map Om.b) a0, nowV (mo.map Om.b) a1, nowV (mo.map Om.b) a2, nowV (mo.map Om.b) a3], Hp.own Fsd 3 cv cs, Hp.own FP 1 ov (mo.map Om.b), Hp.rec_ m.b [ptr m.b2 0, .int .i64 ((m.o.best.n : Nat) : Int), .int .i64 ((m.o.best.who : Nat) : Int), .int .i64 m.o.best.val, .bool m.o.sec, .int .u32 (((mk m.o.seen) : Nat) : Int), .int .i64 ((m.o.many : Nat) : Int)], Hp.rec_ m.b2 [.int .i64 ((m.o.who : Nat) : Int), .int .i64 0, .bool m.o.wr, .int .i64 m.o.val, .int .i64 ((m.o.frm : Nat) : Int), .int .i64 m.o.to], R0, R]) rfl ?_
  refine Gx.eff rfl rfl rfl (eff_call (vs := [ptr S 0, .int .i64 ((i : Nat) : Int), .agg #[.int .i64 ((m.o.best.n : Nat) : Int), .int .i64 ((m.o.best.who : Nat) : Int), .int .i64 m.o.best.val]]) rfl Try.fn16 rfl (fun w H => store_any m.o.best hi (H.at2 (k := 1) (k' := 1) rfl rfl))) ?_
  rintro _ l2 ⟨rfl, hl2⟩
  refine Gx.sepEq (l' := [Hp.rec_ S [cv, ov, nowV (mo.map Om.b) a0, nowV (mo.map Om.b) a1, nowV (mo.map Om.b) a2, nowV (mo.map Om.b) a3], Hp.own Fsd 3 cv (storeR cs i m.o.best), Hp.rec_ b1 [.int .i64 3, .int .i64 x, .int .i64 ((i : Nat) : Int), .int .i64 ((k : Nat) : Int), .bool wr, .int .i64 val], Hp.own FP 1 ov (mo.map Om.b), Hp.rec_ m.b [ptr m.b2 0, .int .i64 ((m.o.best.n : Nat) : Int), .int .i64 ((m.o.best.who : Nat) : Int), .int .i64 m.o.best.val, .bool m.o.sec, .int .u32 (((mk m.o.seen) : Nat) : Int), .int .i64 ((m.o.many : Nat) : Int)], Hp.rec_ m.b2 [.int .i64 ((m.o.who : Nat) : Int), .int .i64 0, .bool m.o.wr, .int .i64 m.o.val, .int .i64 ((m.o.frm : Nat) : Int), .int .i64 m.o.to], R0, R]) hl2 ?_
  refine Gx.done ?_
  refine Gx.thenN ?_
  refine Gx.seq ?_
  refine Gx.region ?_
  refine Gx.val rfl rfl rfl (val_assign rfl rfl) ?_
  refine Gx.done ?_
  refine Gx.thenN ?_
  refine Gx.ret ?_
  refine Gx.drop 2 rfl ?_
  refine Gx.ret1 Try.results11 rfl ?_
  exact ⟨rfl, reg_eq (k := k) h1⟩

end Go.Proofs.Ytjiefamdpbnngaa
