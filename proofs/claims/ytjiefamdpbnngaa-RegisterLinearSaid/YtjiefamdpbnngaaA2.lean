/- An op begins. The walks. No condition. -/
import Derived.Test.YtjiefamdpbnngaaA1
import Derived.Test.YtjiefamdpbnngaaX12
namespace Go.Proofs.Ytjiefamdpbnngaa
open Go.RowKit
set_option linter.unusedVariables false
set_option linter.unusedSimpArgs false
set_option maxRecDepth 100000

structure Om where
  b : Nat
  b2 : Nat
  o : Oq
abbrev FP (b : Nat) : List Value := [ptr b 0]
theorem FP_len (c : Nat) : (FP c).length = 1 := rfl
theorem FP_one (p : Nat) (u : Value) (h : u ∈ FP p) : u.oneCell' = true := by simp [FP] at h; subst h; rfl
theorem Try.eP : Elem Try.prog 43 44 (.pointer none) 1 8 := ⟨Try.underlying43, by kernel_rfl, rfl, by decide⟩
abbrev opH (m : Om) : Hp := Hp.rec_ m.b [ptr m.b2 0, .int .i64 ((m.o.best.n : Nat) : Int), .int .i64 ((m.o.best.who : Nat) : Int), .int .i64 m.o.best.val, .bool m.o.sec, .int .u32 ((mk m.o.seen : Nat) : Int), .int .i64 ((m.o.many : Nat) : Int)] *
  Hp.rec_ m.b2 [.int .i64 ((m.o.who : Nat) : Int), .int .i64 0, .bool m.o.wr, .int .i64 m.o.val, .int .i64 ((m.o.frm : Nat) : Int), .int .i64 m.o.to]
def nowV (bs : List Nat) : Option Nat → Value
  | none => .pointer none
  | some k => ptr (bs.getD k 0) 0
def regP (S : Nat) (now : List (Option Nat)) (cv ov : Value) (cs : List Sd) (mo : List Om) : Hp :=
  Hp.rec_ S (cv :: ov :: now.map (nowV (mo.map Om.b))) * (Hp.own Fsd 3 cv cs * (Hp.own FP 1 ov (mo.map Om.b) * Hp.big opH mo))
theorem nowV_more {bs : List Nat} {a : Option Nat} (b : Nat) (h : ∀ k, a = some k → k < bs.length) : nowV (bs ++ [b]) a = nowV bs a := by
  cases a with
  | none => rfl
  | some k =>
    have := h k rfl
    dsimp only [nowV]
    rw [List.getD_eq_getElem?_getD, List.getD_eq_getElem?_getD, List.getElem?_append_left this]
theorem nowV_last {bs : List Nat} (b : Nat) : nowV (bs ++ [b]) (some bs.length) = ptr b 0 := by
  dsimp only [nowV]
  rw [List.getD_eq_getElem?_getD, List.getElem?_append_right (Nat.le_refl _), Nat.sub_self]; rfl
theorem nowV_at {mo : List Om} {k : Nat} {m : Om} (h : mo[k]? = some m) : nowV (mo.map Om.b) (some k) = ptr m.b 0 := by
  dsimp only [nowV]
  rw [List.getD_eq_getElem?_getD, List.getElem?_map, h]; rfl
theorem sep5 (p q r s t : Hp) : sep [p, q, r, s, t] = p * (q * (r * (s * t))) := by show p * (q * (r * (s * (t * 1)))) = _; rw [Hp.mul_one]
theorem regP_open {W w : World} {S : Nat} {a0 a1 a2 a3 : Option Nat} {cv ov : Value} {cs : List Sd} {mo : List Om} {R : Hp} (H : Sat W w (regP S [a0, a1, a2, a3] cv ov cs mo * R)) : Sat W w (sep [Hp.rec_ S [cv, ov, nowV (mo.map Om.b) a0, nowV (mo.map Om.b) a1, nowV (mo.map Om.b) a2, nowV (mo.map Om.b) a3], Hp.own Fsd 3 cv cs, Hp.own FP 1 ov (mo.map Om.b), Hp.big opH mo, R]) :=
  H.cast (by rw [sep5]; unfold regP; simp only [Hp.mul_assoc]; rfl)
theorem regP_shut {S : Nat} {a0 a1 a2 a3 : Option Nat} {cv ov : Value} {cs : List Sd} {mo : List Om} {R : Hp} : sep [Hp.rec_ S [cv, ov, nowV (mo.map Om.b) a0, nowV (mo.map Om.b) a1, nowV (mo.map Om.b) a2, nowV (mo.map Om.b) a3], Hp.own Fsd 3 cv cs, Hp.own FP 1 ov (mo.map Om.b), Hp.big opH mo, R] = regP S [a0, a1, a2, a3] cv ov cs mo * R := by
  rw [sep5]; unfold regP; simp only [Hp.mul_assoc]; rfl
theorem begin_no0 {W w : World} {S k mom : Nat} {a1 a2 a3 : Option Nat} {cv ov : Value} {cs : List Sd} {mo : List Om} {R : Hp} {kd lo sr val : Int} {wr : Bool} (H : Sat W w (regP S [some k, a1, a2, a3] cv ov cs mo * R)) :
    Calls Try.prog 14 #[ptr S 0, .agg #[.int .i64 kd, .int .i64 0, .int .i64 lo, .int .i64 sr, .bool wr, .int .i64 val], .int .i64 ((mom : Nat) : Int)] w (Ret W fun v l => v = .int .i64 6 ∧ sep l = regP S [some k, a1, a2, a3] cv ov cs mo * R) := by
  refine Gx.enter (l := [Hp.rec_ S [cv, ov, ptr ((mo.map Om.b).getD k 0) 0, nowV (mo.map Om.b) a1, nowV (mo.map Om.b) a2, nowV (mo.map Om.b) a3], Hp.own Fsd 3 cv cs, Hp.own FP 1 ov (mo.map Om.b), Hp.big opH mo, R]) Try.func14 rfl Try.ntmps14 rfl ((regP_open H)) ?_
  refine Gx.know (m' := [(0, ptr S 0), (1, .agg #[.int .i64 kd, .int .i64 0, .int .i64 lo, .int .i64 sr, .bool wr, .int .i64 val]), (2, .int .i64 ((mom : Nat) : Int))]) (.cons rfl (.cons rfl (.cons rfl .nil))) ?_
  refine Gx.seq ?_
  refine Gx.region ?_
  refine Gx.eff rfl rfl rfl (eff_box rfl rfl (vs := [.int .i64 kd, .int .i64 0, .int .i64 lo, .int .i64 sr, .bool wr, .int .i64 val]) rfl) ?_
  rintro _ _ ⟨b1, rfl, rfl⟩
  refine Gx.val rfl rfl rfl (val_assign rfl rfl) ?_
  refine Gx.done ?_
  refine Gx.thenN ?_
  refine Gx.seq ?_
  refine Gx.seq ?_
  refine Gx.regionQ Try.mixed (by kernel_rfl) ?_
  refine Gq.val rfl rfl rfl (val_move rfl rfl) ?_
  refine Gq.val rfl rfl rfl (Val.cast (val_fieldAddr rfl Try.underlying24 rfl Try.ty3 rfl rfl) (v' := ptr b1 1) rfl) ?_
  refine Gq.val rfl rfl rfl (val_load rfl Try.ty3 rfl rfl (cell_rec (k := 0) rfl rfl)) ?_
  refine Gq.val rfl rfl rfl (val_nilCheck rfl rfl) ?_
  refine Gq.val rfl rfl rfl (Val.cast (val_fieldAddr rfl Try.underlying47 rfl Try.ty45 rfl rfl) (v' := ptr S 2) rfl) ?_
  refine Gq.val rfl rfl rfl (Val.cast (val_ixaA rfl Try.underlying45 Try.ty44 rfl rfl (j := 0) (rfl) (by omega)) (v' := ptr S 2) rfl) ?_
  refine Gq.val rfl rfl rfl (val_load rfl Try.ty44 rfl rfl (cell_rec (k := 1) rfl rfl)) ?_
  refine Gq.val rfl rfl rfl (Val.cast (val_neqP rfl Try.underlying44 (by kernel_rfl) rfl rfl) (v' := .bool true) rfl) ?_
  refine Gq.done ?_
  refine Gx.thenN ?_
  refine Gx.t rfl ?_
  refine Gx.seq ?_
  refine Gx.region ?_
  refine Gx.val rfl rfl rfl (val_assign rfl rfl) ?_
  refine Gx.done ?_
  refine Gx.thenN ?_
  refine Gx.ret ?_
  refine Gx.thenR ?_
  refine Gx.drop 0 rfl ?_
  refine Gx.ret1 Try.results14 rfl ?_
  exact ⟨rfl, regP_shut (a0 := some k)⟩

theorem mk_nil : mk [] = 0 := rfl
theorem begin_yes0 {W w : World} {S mom : Nat} {a1 a2 a3 : Option Nat} {cv ov : Value} {cs : List Sd} {mo : List Om} {R : Hp} {kd lo sr val : Int} {wr : Bool} (h1 : ∀ k, a1 = some k → k < mo.length) (h2 : ∀ k, a2 = some k → k < mo.length) (h3 : ∀ k, a3 = some k → k < mo.length) (hml : mo.length ≤ 1000) (H : Sat W w (regP S [none, a1, a2, a3] cv ov cs mo * R)) :
    Calls Try.prog 14 #[ptr S 0, .agg #[.int .i64 kd, .int .i64 0, .int .i64 lo, .int .i64 sr, .bool wr, .int .i64 val], .int .i64 ((mom : Nat) : Int)] w (Ret W fun v l => ∃ b b2 ov', v = .int .i64 0 ∧ IsS ov' ∧ sep l = regP S [some mo.length, a1, a2, a3] cv ov' cs (mo ++ [⟨b, b2, newO 0 wr val mom⟩]) * R) := by
  refine Gx.enter (l := [Hp.rec_ S [cv, ov, .pointer none, nowV (mo.map Om.b) a1, nowV (mo.map Om.b) a2, nowV (mo.map Om.b) a3], Hp.own Fsd 3 cv cs, Hp.own FP 1 ov (mo.map Om.b), Hp.big opH mo, R]) Try.func14 rfl Try.ntmps14 rfl ((regP_open H)) ?_
  refine Gx.know (m' := [(0, ptr S 0), (1, .agg #[.int .i64 kd, .int .i64 0, .int .i64 lo, .int .i64 sr, .bool wr, .int .i64 val]), (2, .int .i64 ((mom : Nat) : Int))]) (.cons rfl (.cons rfl (.cons rfl .nil))) ?_
  refine Gx.seq ?_
  refine Gx.region ?_
  refine Gx.eff rfl rfl rfl (eff_box rfl rfl (vs := [.int .i64 kd, .int .i64 0, .int .i64 lo, .int .i64 sr, .bool wr, .int .i64 val]) rfl) ?_
  rintro _ _ ⟨b1, rfl, rfl⟩
  refine Gx.val rfl rfl rfl (val_assign rfl rfl) ?_
  refine Gx.done ?_
  refine Gx.thenN ?_
  refine Gx.seq ?_
  refine Gx.seq ?_
  refine Gx.regionQ Try.mixed (by kernel_rfl) ?_
  refine Gq.val rfl rfl rfl (val_move rfl rfl) ?_
  refine Gq.val rfl rfl rfl (Val.cast (val_fieldAddr rfl Try.underlying24 rfl Try.ty3 rfl rfl) (v' := ptr b1 1) rfl) ?_
  refine Gq.val rfl rfl rfl (val_load rfl Try.ty3 rfl rfl (cell_rec (k := 0) rfl rfl)) ?_
  refine Gq.val rfl rfl rfl (val_nilCheck rfl rfl) ?_
  refine Gq.val rfl rfl rfl (Val.cast (val_fieldAddr rfl Try.underlying47 rfl Try.ty45 rfl rfl) (v' := ptr S 2) rfl) ?_
  refine Gq.val rfl rfl rfl (Val.cast (val_ixaA rfl Try.underlying45 Try.ty44 rfl rfl (j := 0) (rfl) (by omega)) (v' := ptr S 2) rfl) ?_
  refine Gq.val rfl rfl rfl (val_load rfl Try.ty44 rfl rfl (cell_rec (k := 1) rfl rfl)) ?_
  refine Gq.val rfl rfl rfl (Val.cast (val_neqP rfl Try.underlying44 (by kernel_rfl) rfl rfl) (v' := .bool false) rfl) ?_
  refine Gq.done ?_
  refine Gx.thenN ?_
  refine Gx.f rfl ?_
  refine Gx.skip ?_
  refine Gx.thenN ?_
  refine Gx.seq ?_
  refine Gx.region ?_
  refine Gx.val rfl rfl rfl (Val.cast (val_fieldAddr rfl Try.underlying24 rfl Try.ty3 rfl rfl) (v' := ptr b1 1) rfl) ?_
  refine Gx.val rfl rfl rfl (val_load rfl Try.ty3 rfl rfl (cell_rec (k := 0) rfl rfl)) ?_
  refine Gx.val rfl rfl rfl (Val.cast (val_fieldAddr rfl Try.underlying24 rfl Try.ty4 rfl rfl) (v' := ptr b1 4) rfl) ?_
  refine Gx.val rfl rfl rfl (val_load rfl Try.ty4 rfl rfl (cell_rec (k := 0) rfl rfl)) ?_
  refine Gx.val rfl rfl rfl (val_move rfl rfl) ?_
  refine Gx.val rfl rfl rfl (val_build rfl (qs := [(0, .int .i64 0), (2, .bool wr), (4, .int .i64 ((mom : Nat) : Int)), (5, .int .i64 (-1))]) rfl rfl (fun w => by go_simp) (v := .agg #[.int .i64 0, .int .i64 0, .bool wr, .int .i64 0, .int .i64 ((mom : Nat) : Int), .int .i64 (-1)])) ?_
  refine Gx.eff rfl rfl rfl (eff_box rfl rfl (vs := [.int .i64 0, .int .i64 0, .bool wr, .int .i64 0, .int .i64 ((mom : Nat) : Int), .int .i64 (-1)]) rfl) ?_
  rintro _ _ ⟨b2, rfl, rfl⟩
  refine Gx.val rfl rfl rfl (val_build rfl (qs := [(0, ptr b2 0)]) rfl rfl (fun w => by go_simp) (v := .agg #[ptr b2 0, .int .i64 0, .int .i64 0, .int .i64 0, .bool false, .int .u32 0, .int .i64 0])) ?_
  refine Gx.eff rfl rfl rfl (eff_box rfl rfl (vs := [ptr b2 0, .int .i64 0, .int .i64 0, .int .i64 0, .bool false, .int .u32 0, .int .i64 0]) rfl) ?_
  rintro _ _ ⟨b3, rfl, rfl⟩
  refine Gx.val rfl rfl rfl (val_assign rfl rfl) ?_
  refine Gx.done ?_
  refine Gx.thenN ?_
  refine Gx.seq ?_
  refine Gx.seq ?_
  refine Gx.region ?_
  refine Gx.val rfl rfl rfl (Val.cast (val_fieldAddr rfl Try.underlying24 rfl Try.ty4 rfl rfl) (v' := ptr b1 4) rfl) ?_
  refine Gx.val rfl rfl rfl (val_load rfl Try.ty4 rfl rfl (cell_rec (k := 2) rfl rfl)) ?_
  refine Gx.done ?_
  refine Gx.thenN ?_
  refine Gx.bool rfl (fun h4 => ?_) (fun h4 => ?_)
  · refine Gx.regionO (fun j => false) 8 [0, 1, 2, 3, 4, 5, 6, 7] (fun _ => [Hp.rec_ b3 [ptr b2 0, .int .i64 0, .int .i64 0, .int .i64 0, .bool false, .int .u32 0, .int .i64 0], Hp.rec_ b2 [.int .i64 0, .int .i64 0, .bool wr, .int .i64 0, .int .i64 ((mom : Nat) : Int), .int .i64 (-1)], Hp.rec_ b1 [.int .i64 kd, .int .i64 0, .int .i64 lo, .int .i64 sr, .bool wr, .int .i64 val], Hp.rec_ S [cv, ov, .pointer none, nowV (mo.map Om.b) a1, nowV (mo.map Om.b) a2, nowV (mo.map Om.b) a3], Hp.own Fsd 3 cv cs, Hp.own FP 1 ov (mo.map Om.b), Hp.big opH mo, R]) Try.mixed (by kernel_rfl) rfl ?_
    refine Gw.val rfl rfl rfl rfl rfl (fun us => val_move rfl rfl) ?_
    refine Gw.val rfl rfl rfl rfl rfl (fun us => val_nilCheck rfl rfl) ?_
    refine Gw.val rfl rfl rfl rfl rfl (fun us => Val.cast (val_fieldAddr rfl Try.underlying54 rfl Try.ty49 rfl rfl) (v' := ptr b3 0) rfl) ?_
    refine Gw.val0 rfl rfl rfl (by kernel_rfl) rfl rfl (val_load rfl Try.ty49 rfl rfl (cell_rec (k := 0) rfl rfl)) ?_
    refine Gw.val rfl rfl rfl rfl rfl (fun us => Val.cast (val_fieldAddr rfl Try.underlying24 rfl Try.ty2 rfl rfl) (v' := ptr b1 5) rfl) ?_
    refine Gw.val0 rfl rfl rfl (by kernel_rfl) rfl rfl (val_load rfl Try.ty2 rfl rfl (cell_rec (k := 2) rfl rfl)) ?_
    refine Gw.val rfl rfl rfl rfl rfl (fun us => val_nilCheck rfl rfl) ?_
    refine Gw.val rfl rfl rfl rfl rfl (fun us => Val.cast (val_fieldAddr rfl Try.underlying33 rfl Try.ty2 rfl rfl) (v' := ptr b2 3) rfl) ?_
    refine Gw.done ?_
    refine Gx.norm (l' := [Hp.rec_ b3 [ptr b2 0, .int .i64 0, .int .i64 0, .int .i64 0, .bool false, .int .u32 0, .int .i64 0], Hp.rec_ b2 [.int .i64 0, .int .i64 0, .bool wr, .int .i64 0, .int .i64 ((mom : Nat) : Int), .int .i64 (-1)], Hp.rec_ b1 [.int .i64 kd, .int .i64 0, .int .i64 lo, .int .i64 sr, .bool wr, .int .i64 val], Hp.rec_ S [cv, ov, .pointer none, nowV (mo.map Om.b) a1, nowV (mo.map Om.b) a2, nowV (mo.map Om.b) a3], Hp.own Fsd 3 cv cs, Hp.own FP 1 ov (mo.map Om.b), Hp.big opH mo, R]) rfl ?_
    refine Gx.eff0 rfl rfl (eff_store rfl Try.ty2 rfl rfl (us := [.int .i64 val]) rfl rfl rfl (k := 1) rfl (rfl) (vs' := [.int .i64 0, .int .i64 0, .bool wr, .int .i64 val, .int .i64 ((mom : Nat) : Int), .int .i64 (-1)]) (rfl) (l' := [Hp.rec_ b3 [ptr b2 0, .int .i64 0, .int .i64 0, .int .i64 0, .bool false, .int .u32 0, .int .i64 0], Hp.rec_ b2 [.int .i64 0, .int .i64 0, .bool wr, .int .i64 val, .int .i64 ((mom : Nat) : Int), .int .i64 (-1)], Hp.rec_ b1 [.int .i64 kd, .int .i64 0, .int .i64 lo, .int .i64 sr, .bool wr, .int .i64 val], Hp.rec_ S [cv, ov, .pointer none, nowV (mo.map Om.b) a1, nowV (mo.map Om.b) a2, nowV (mo.map Om.b) a3], Hp.own Fsd 3 cv cs, Hp.own FP 1 ov (mo.map Om.b), Hp.big opH mo, R]) rfl) ?_
    rintro _ _ rfl
    refine Gx.done ?_
    refine Gx.thenN ?_
    refine Gx.seq ?_
    refine Gx.region ?_
    refine Gx.val rfl rfl rfl (val_move rfl rfl) ?_
    refine Gx.val rfl rfl rfl (val_move rfl rfl) ?_
    refine Gx.val rfl rfl rfl (val_nilCheck rfl rfl) ?_
    refine Gx.val rfl rfl rfl (Val.cast (val_fieldAddr rfl Try.underlying47 rfl Try.ty43 rfl rfl) (v' := ptr S 1) rfl) ?_
    refine Gx.val rfl rfl rfl (val_load rfl Try.ty43 rfl rfl (cell_rec (k := 3) rfl rfl)) ?_
    refine Gx.val rfl rfl rfl (val_move rfl rfl) ?_
    refine Gx.eff rfl rfl rfl (eff_buildSlice rfl (qs := [(0, ptr b3 0)]) rfl rfl (cs := #[ptr b3 0]) (vs := [ptr b3 0]) (E := 44) rfl (fun w => by first | (go_simp; done) | (go_simp; rfl))) ?_
    rintro _ _ ⟨b5, rfl, rfl⟩
    refine Gx.eff rfl rfl rfl (eff_push (r := b3) rfl Try.eP FP_len FP_one rfl rfl (k := 0) rfl rfl (k' := 5) rfl (by rw [List.length_map]; omega) (by rw [List.length_map]; omega)) ?_
    rintro v6 _ ⟨hiv6, rfl⟩
    refine Gx.norm (l' := [Hp.rec_ b3 [ptr b2 0, .int .i64 0, .int .i64 0, .int .i64 0, .bool false, .int .u32 0, .int .i64 0], Hp.rec_ b2 [.int .i64 0, .int .i64 0, .bool wr, .int .i64 val, .int .i64 ((mom : Nat) : Int), .int .i64 (-1)], Hp.rec_ b1 [.int .i64 kd, .int .i64 0, .int .i64 lo, .int .i64 sr, .bool wr, .int .i64 val], Hp.rec_ S [cv, ov, .pointer none, nowV (mo.map Om.b) a1, nowV (mo.map Om.b) a2, nowV (mo.map Om.b) a3], Hp.own Fsd 3 cv cs, Hp.own FP 1 v6 ((mo.map Om.b) ++ [b3]), Hp.big opH mo, R]) rfl ?_
    refine Gx.val rfl rfl rfl (val_nilCheck rfl rfl) ?_
    refine Gx.val rfl rfl rfl (Val.cast (val_fieldAddr rfl Try.underlying47 rfl Try.ty43 rfl rfl) (v' := ptr S 1) rfl) ?_
    refine Gx.eff0 rfl rfl (eff_store rfl Try.ty43 rfl rfl (us := [v6]) hiv6.cellsL rfl hiv6.all (k := 3) rfl (rfl) (vs' := [cv, v6, .pointer none, nowV (mo.map Om.b) a1, nowV (mo.map Om.b) a2, nowV (mo.map Om.b) a3]) (rfl) (l' := [Hp.rec_ b3 [ptr b2 0, .int .i64 0, .int .i64 0, .int .i64 0, .bool false, .int .u32 0, .int .i64 0], Hp.rec_ b2 [.int .i64 0, .int .i64 0, .bool wr, .int .i64 val, .int .i64 ((mom : Nat) : Int), .int .i64 (-1)], Hp.rec_ b1 [.int .i64 kd, .int .i64 0, .int .i64 lo, .int .i64 sr, .bool wr, .int .i64 val], Hp.rec_ S [cv, v6, .pointer none, nowV (mo.map Om.b) a1, nowV (mo.map Om.b) a2, nowV (mo.map Om.b) a3], Hp.own Fsd 3 cv cs, Hp.own FP 1 v6 ((mo.map Om.b) ++ [b3]), Hp.big opH mo, R]) rfl) ?_
    rintro _ _ rfl
    refine Gx.done ?_
    refine Gx.thenN ?_
    refine Gx.seq ?_
    refine Gx.regionO (fun j => false) 7 [0, 1, 2, 3, 4, 5, 6] (fun _ => [Hp.rec_ b3 [ptr b2 0, .int .i64 0, .int .i64 0, .int .i64 0, .bool false, .int .u32 0, .int .i64 0], Hp.rec_ b2 [.int .i64 0, .int .i64 0, .bool wr, .int .i64 val, .int .i64 ((mom : Nat) : Int), .int .i64 (-1)], Hp.rec_ b1 [.int .i64 kd, .int .i64 0, .int .i64 lo, .int .i64 sr, .bool wr, .int .i64 val], Hp.rec_ S [cv, v6, .pointer none, nowV (mo.map Om.b) a1, nowV (mo.map Om.b) a2, nowV (mo.map Om.b) a3], Hp.own Fsd 3 cv cs, Hp.own FP 1 v6 ((mo.map Om.b) ++ [b3]), Hp.big opH mo, R]) Try.mixed (by kernel_rfl) rfl ?_
    refine Gw.val rfl rfl rfl rfl rfl (fun us => val_move rfl rfl) ?_
    refine Gw.val rfl rfl rfl rfl rfl (fun us => Val.cast (val_fieldAddr rfl Try.underlying24 rfl Try.ty3 rfl rfl) (v' := ptr b1 1) rfl) ?_
    refine Gw.val0 rfl rfl rfl (by kernel_rfl) rfl rfl (val_load rfl Try.ty3 rfl rfl (cell_rec (k := 2) rfl rfl)) ?_
    refine Gw.val rfl rfl rfl rfl rfl (fun us => val_move rfl rfl) ?_
    refine Gw.val rfl rfl rfl rfl rfl (fun us => val_nilCheck rfl rfl) ?_
    refine Gw.val rfl rfl rfl rfl rfl (fun us => Val.cast (val_fieldAddr rfl Try.underlying47 rfl Try.ty45 rfl rfl) (v' := ptr S 2) rfl) ?_
    refine Gw.val rfl rfl rfl rfl rfl (fun us => Val.cast (val_ixaA rfl Try.underlying45 Try.ty44 rfl rfl (j := 0) (rfl) (by omega)) (v' := ptr S 2) rfl) ?_
    refine Gw.done ?_
    refine Gx.norm (l' := [Hp.rec_ b3 [ptr b2 0, .int .i64 0, .int .i64 0, .int .i64 0, .bool false, .int .u32 0, .int .i64 0], Hp.rec_ b2 [.int .i64 0, .int .i64 0, .bool wr, .int .i64 val, .int .i64 ((mom : Nat) : Int), .int .i64 (-1)], Hp.rec_ b1 [.int .i64 kd, .int .i64 0, .int .i64 lo, .int .i64 sr, .bool wr, .int .i64 val], Hp.rec_ S [cv, v6, .pointer none, nowV (mo.map Om.b) a1, nowV (mo.map Om.b) a2, nowV (mo.map Om.b) a3], Hp.own Fsd 3 cv cs, Hp.own FP 1 v6 ((mo.map Om.b) ++ [b3]), Hp.big opH mo, R]) rfl ?_
    refine Gx.eff0 rfl rfl (eff_store rfl Try.ty44 rfl rfl (us := [ptr b3 0]) rfl rfl rfl (k := 3) rfl (rfl) (vs' := [cv, v6, ptr b3 0, nowV (mo.map Om.b) a1, nowV (mo.map Om.b) a2, nowV (mo.map Om.b) a3]) (rfl) (l' := [Hp.rec_ b3 [ptr b2 0, .int .i64 0, .int .i64 0, .int .i64 0, .bool false, .int .u32 0, .int .i64 0], Hp.rec_ b2 [.int .i64 0, .int .i64 0, .bool wr, .int .i64 val, .int .i64 ((mom : Nat) : Int), .int .i64 (-1)], Hp.rec_ b1 [.int .i64 kd, .int .i64 0, .int .i64 lo, .int .i64 sr, .bool wr, .int .i64 val], Hp.rec_ S [cv, v6, ptr b3 0, nowV (mo.map Om.b) a1, nowV (mo.map Om.b) a2, nowV (mo.map Om.b) a3], Hp.own Fsd 3 cv cs, Hp.own FP 1 v6 ((mo.map Om.b) ++ [b3]), Hp.big opH mo, R]) rfl) ?_
    rintro _ _ rfl
    refine Gx.done ?_
    refine Gx.thenN ?_
    refine Gx.seq ?_
    refine Gx.region ?_
    refine Gx.val rfl rfl rfl (val_assign rfl rfl) ?_
    refine Gx.done ?_
    refine Gx.thenN ?_
    refine Gx.ret ?_
    refine Gx.drop 2 rfl ?_
    refine Gx.front 6 rfl ?_
    refine Gx.front 2 rfl ?_
    refine Gx.front 2 rfl ?_
    refine Gx.front 6 rfl ?_
    refine Gx.front 6 rfl ?_
    refine Gx.front 6 rfl ?_
    refine Gx.front 6 rfl ?_
    have hbs : (mo ++ [(⟨b3, b2, newO 0 wr val mom⟩ : Om)]).map Om.b = mo.map Om.b ++ [b3] := by simp
    have e1 : nowV (mo.map Om.b) a1 = nowV ((mo ++ [(⟨b3, b2, newO 0 wr val mom⟩ : Om)]).map Om.b) a1 := by rw [hbs, nowV_more]; intro k hk; rw [List.length_map]; exact h1 k hk
    have e2 : nowV (mo.map Om.b) a2 = nowV ((mo ++ [(⟨b3, b2, newO 0 wr val mom⟩ : Om)]).map Om.b) a2 := by rw [hbs, nowV_more]; intro k hk; rw [List.length_map]; exact h2 k hk
    have e3 : nowV (mo.map Om.b) a3 = nowV ((mo ++ [(⟨b3, b2, newO 0 wr val mom⟩ : Om)]).map Om.b) a3 := by rw [hbs, nowV_more]; intro k hk; rw [List.length_map]; exact h3 k hk
    have e0 : ptr b3 0 = nowV ((mo ++ [(⟨b3, b2, newO 0 wr val mom⟩ : Om)]).map Om.b) (some mo.length) := by rw [hbs, show mo.length = (mo.map Om.b).length from by simp, nowV_last]
    have hbig : Hp.big opH (mo ++ [(⟨b3, b2, newO 0 wr val mom⟩ : Om)]) = Hp.big opH mo * opH (⟨b3, b2, newO 0 wr val mom⟩ : Om) := by rw [Hp.big_append]; show _ * (_ * 1) = _; rw [Hp.mul_one]
    refine Gx.ret1 Try.results14 rfl ?_
    refine ⟨b3, b2, v6, rfl, hiv6, ?_⟩
    rw [← regP_shut, hbig, ← e0, ← e1, ← e2, ← e3, hbs]
    simp only [newO, h4, if_true, Bool.false_eq_true, if_false, opH, mk_nil]
    show _ * (_ * (_ * (_ * (_ * (_ * (_ * 1)))))) = _ * (_ * (_ * (_ * (_ * 1))))
    simp only [Hp.mul_assoc, Hp.mul_one]
    rfl
  · refine Gx.skip ?_
    refine Gx.thenN ?_
    refine Gx.seq ?_
    refine Gx.region ?_
    refine Gx.val rfl rfl rfl (val_move rfl rfl) ?_
    refine Gx.val rfl rfl rfl (val_move rfl rfl) ?_
    refine Gx.val rfl rfl rfl (val_nilCheck rfl rfl) ?_
    refine Gx.val rfl rfl rfl (Val.cast (val_fieldAddr rfl Try.underlying47 rfl Try.ty43 rfl rfl) (v' := ptr S 1) rfl) ?_
    refine Gx.val rfl rfl rfl (val_load rfl Try.ty43 rfl rfl (cell_rec (k := 3) rfl rfl)) ?_
    refine Gx.val rfl rfl rfl (val_move rfl rfl) ?_
    refine Gx.eff rfl rfl rfl (eff_buildSlice rfl (qs := [(0, ptr b3 0)]) rfl rfl (cs := #[ptr b3 0]) (vs := [ptr b3 0]) (E := 44) rfl (fun w => by first | (go_simp; done) | (go_simp; rfl))) ?_
    rintro _ _ ⟨b7, rfl, rfl⟩
    refine Gx.eff rfl rfl rfl (eff_push (r := b3) rfl Try.eP FP_len FP_one rfl rfl (k := 0) rfl rfl (k' := 5) rfl (by rw [List.length_map]; omega) (by rw [List.length_map]; omega)) ?_
    rintro v8 _ ⟨hiv8, rfl⟩
    refine Gx.norm (l' := [Hp.rec_ b3 [ptr b2 0, .int .i64 0, .int .i64 0, .int .i64 0, .bool false, .int .u32 0, .int .i64 0], Hp.rec_ b2 [.int .i64 0, .int .i64 0, .bool wr, .int .i64 0, .int .i64 ((mom : Nat) : Int), .int .i64 (-1)], Hp.rec_ b1 [.int .i64 kd, .int .i64 0, .int .i64 lo, .int .i64 sr, .bool wr, .int .i64 val], Hp.rec_ S [cv, ov, .pointer none, nowV (mo.map Om.b) a1, nowV (mo.map Om.b) a2, nowV (mo.map Om.b) a3], Hp.own Fsd 3 cv cs, Hp.own FP 1 v8 ((mo.map Om.b) ++ [b3]), Hp.big opH mo, R]) rfl ?_
    refine Gx.val rfl rfl rfl (val_nilCheck rfl rfl) ?_
    refine Gx.val rfl rfl rfl (Val.cast (val_fieldAddr rfl Try.underlying47 rfl Try.ty43 rfl rfl) (v' := ptr S 1) rfl) ?_
    refine Gx.eff0 rfl rfl (eff_store rfl Try.ty43 rfl rfl (us := [v8]) hiv8.cellsL rfl hiv8.all (k := 3) rfl (rfl) (vs' := [cv, v8, .pointer none, nowV (mo.map Om.b) a1, nowV (mo.map Om.b) a2, nowV (mo.map Om.b) a3]) (rfl) (l' := [Hp.rec_ b3 [ptr b2 0, .int .i64 0, .int .i64 0, .int .i64 0, .bool false, .int .u32 0, .int .i64 0], Hp.rec_ b2 [.int .i64 0, .int .i64 0, .bool wr, .int .i64 0, .int .i64 ((mom : Nat) : Int), .int .i64 (-1)], Hp.rec_ b1 [.int .i64 kd, .int .i64 0, .int .i64 lo, .int .i64 sr, .bool wr, .int .i64 val], Hp.rec_ S [cv, v8, .pointer none, nowV (mo.map Om.b) a1, nowV (mo.map Om.b) a2, nowV (mo.map Om.b) a3], Hp.own Fsd 3 cv cs, Hp.own FP 1 v8 ((mo.map Om.b) ++ [b3]), Hp.big opH mo, R]) rfl) ?_
    rintro _ _ rfl
    refine Gx.done ?_
    refine Gx.thenN ?_
    refine Gx.seq ?_
    refine Gx.regionO (fun j => false) 7 [0, 1, 2, 3, 4, 5, 6] (fun _ => [Hp.rec_ b3 [ptr b2 0, .int .i64 0, .int .i64 0, .int .i64 0, .bool false, .int .u32 0, .int .i64 0], Hp.rec_ b2 [.int .i64 0, .int .i64 0, .bool wr, .int .i64 0, .int .i64 ((mom : Nat) : Int), .int .i64 (-1)], Hp.rec_ b1 [.int .i64 kd, .int .i64 0, .int .i64 lo, .int .i64 sr, .bool wr, .int .i64 val], Hp.rec_ S [cv, v8, .pointer none, nowV (mo.map Om.b) a1, nowV (mo.map Om.b) a2, nowV (mo.map Om.b) a3], Hp.own Fsd 3 cv cs, Hp.own FP 1 v8 ((mo.map Om.b) ++ [b3]), Hp.big opH mo, R]) Try.mixed (by kernel_rfl) rfl ?_
    refine Gw.val rfl rfl rfl rfl rfl (fun us => val_move rfl rfl) ?_
    refine Gw.val rfl rfl rfl rfl rfl (fun us => Val.cast (val_fieldAddr rfl Try.underlying24 rfl Try.ty3 rfl rfl) (v' := ptr b1 1) rfl) ?_
    refine Gw.val0 rfl rfl rfl (by kernel_rfl) rfl rfl (val_load rfl Try.ty3 rfl rfl (cell_rec (k := 2) rfl rfl)) ?_
    refine Gw.val rfl rfl rfl rfl rfl (fun us => val_move rfl rfl) ?_
    refine Gw.val rfl rfl rfl rfl rfl (fun us => val_nilCheck rfl rfl) ?_
    refine Gw.val rfl rfl rfl rfl rfl (fun us => Val.cast (val_fieldAddr rfl Try.underlying47 rfl Try.ty45 rfl rfl) (v' := ptr S 2) rfl) ?_
    refine Gw.val rfl rfl rfl rfl rfl (fun us => Val.cast (val_ixaA rfl Try.underlying45 Try.ty44 rfl rfl (j := 0) (rfl) (by omega)) (v' := ptr S 2) rfl) ?_
    refine Gw.done ?_
    refine Gx.norm (l' := [Hp.rec_ b3 [ptr b2 0, .int .i64 0, .int .i64 0, .int .i64 0, .bool false, .int .u32 0, .int .i64 0], Hp.rec_ b2 [.int .i64 0, .int .i64 0, .bool wr, .int .i64 0, .int .i64 ((mom : Nat) : Int), .int .i64 (-1)], Hp.rec_ b1 [.int .i64 kd, .int .i64 0, .int .i64 lo, .int .i64 sr, .bool wr, .int .i64 val], Hp.rec_ S [cv, v8, .pointer none, nowV (mo.map Om.b) a1, nowV (mo.map Om.b) a2, nowV (mo.map Om.b) a3], Hp.own Fsd 3 cv cs, Hp.own FP 1 v8 ((mo.map Om.b) ++ [b3]), Hp.big opH mo, R]) rfl ?_
    refine Gx.eff0 rfl rfl (eff_store rfl Try.ty44 rfl rfl (us := [ptr b3 0]) rfl rfl rfl (k := 3) rfl (rfl) (vs' := [cv, v8, ptr b3 0, nowV (mo.map Om.b) a1, nowV (mo.map Om.b) a2, nowV (mo.map Om.b) a3]) (rfl) (l' := [Hp.rec_ b3 [ptr b2 0, .int .i64 0, .int .i64 0, .int .i64 0, .bool false, .int .u32 0, .int .i64 0], Hp.rec_ b2 [.int .i64 0, .int .i64 0, .bool wr, .int .i64 0, .int .i64 ((mom : Nat) : Int), .int .i64 (-1)], Hp.rec_ b1 [.int .i64 kd, .int .i64 0, .int .i64 lo, .int .i64 sr, .bool wr, .int .i64 val], Hp.rec_ S [cv, v8, ptr b3 0, nowV (mo.map Om.b) a1, nowV (mo.map Om.b) a2, nowV (mo.map Om.b) a3], Hp.own Fsd 3 cv cs, Hp.own FP 1 v8 ((mo.map Om.b) ++ [b3]), Hp.big opH mo, R]) rfl) ?_
    rintro _ _ rfl
    refine Gx.done ?_
    refine Gx.thenN ?_
    refine Gx.seq ?_
    refine Gx.region ?_
    refine Gx.val rfl rfl rfl (val_assign rfl rfl) ?_
    refine Gx.done ?_
    refine Gx.thenN ?_
    refine Gx.ret ?_
    refine Gx.drop 2 rfl ?_
    refine Gx.front 6 rfl ?_
    refine Gx.front 2 rfl ?_
    refine Gx.front 2 rfl ?_
    refine Gx.front 6 rfl ?_
    refine Gx.front 6 rfl ?_
    refine Gx.front 6 rfl ?_
    refine Gx.front 6 rfl ?_
    have hbs : (mo ++ [(⟨b3, b2, newO 0 wr val mom⟩ : Om)]).map Om.b = mo.map Om.b ++ [b3] := by simp
    have e1 : nowV (mo.map Om.b) a1 = nowV ((mo ++ [(⟨b3, b2, newO 0 wr val mom⟩ : Om)]).map Om.b) a1 := by rw [hbs, nowV_more]; intro k hk; rw [List.length_map]; exact h1 k hk
    have e2 : nowV (mo.map Om.b) a2 = nowV ((mo ++ [(⟨b3, b2, newO 0 wr val mom⟩ : Om)]).map Om.b) a2 := by rw [hbs, nowV_more]; intro k hk; rw [List.length_map]; exact h2 k hk
    have e3 : nowV (mo.map Om.b) a3 = nowV ((mo ++ [(⟨b3, b2, newO 0 wr val mom⟩ : Om)]).map Om.b) a3 := by rw [hbs, nowV_more]; intro k hk; rw [List.length_map]; exact h3 k hk
    have e0 : ptr b3 0 = nowV ((mo ++ [(⟨b3, b2, newO 0 wr val mom⟩ : Om)]).map Om.b) (some mo.length) := by rw [hbs, show mo.length = (mo.map Om.b).length from by simp, nowV_last]
    have hbig : Hp.big opH (mo ++ [(⟨b3, b2, newO 0 wr val mom⟩ : Om)]) = Hp.big opH mo * opH (⟨b3, b2, newO 0 wr val mom⟩ : Om) := by rw [Hp.big_append]; show _ * (_ * 1) = _; rw [Hp.mul_one]
    refine Gx.ret1 Try.results14 rfl ?_
    refine ⟨b3, b2, v8, rfl, hiv8, ?_⟩
    rw [← regP_shut, hbig, ← e0, ← e1, ← e2, ← e3, hbs]
    simp only [newO, h4, if_true, Bool.false_eq_true, if_false, opH, mk_nil]
    show _ * (_ * (_ * (_ * (_ * (_ * (_ * 1)))))) = _ * (_ * (_ * (_ * (_ * 1))))
    simp only [Hp.mul_assoc, Hp.mul_one]
    rfl

theorem begin_no1 {W w : World} {S k mom : Nat} {a0 a2 a3 : Option Nat} {cv ov : Value} {cs : List Sd} {mo : List Om} {R : Hp} {kd lo sr val : Int} {wr : Bool} (H : Sat W w (regP S [a0, some k, a2, a3] cv ov cs mo * R)) :
    Calls Try.prog 14 #[ptr S 0, .agg #[.int .i64 kd, .int .i64 1, .int .i64 lo, .int .i64 sr, .bool wr, .int .i64 val], .int .i64 ((mom : Nat) : Int)] w (Ret W fun v l => v = .int .i64 6 ∧ sep l = regP S [a0, some k, a2, a3] cv ov cs mo * R) := by
  refine Gx.enter (l := [Hp.rec_ S [cv, ov, nowV (mo.map Om.b) a0, ptr ((mo.map Om.b).getD k 0) 0, nowV (mo.map Om.b) a2, nowV (mo.map Om.b) a3], Hp.own Fsd 3 cv cs, Hp.own FP 1 ov (mo.map Om.b), Hp.big opH mo, R]) Try.func14 rfl Try.ntmps14 rfl ((regP_open H)) ?_
  refine Gx.know (m' := [(0, ptr S 0), (1, .agg #[.int .i64 kd, .int .i64 1, .int .i64 lo, .int .i64 sr, .bool wr, .int .i64 val]), (2, .int .i64 ((mom : Nat) : Int))]) (.cons rfl (.cons rfl (.cons rfl .nil))) ?_
  refine Gx.seq ?_
  refine Gx.region ?_
  refine Gx.eff rfl rfl rfl (eff_box rfl rfl (vs := [.int .i64 kd, .int .i64 1, .int .i64 lo, .int .i64 sr, .bool wr, .int .i64 val]) rfl) ?_
  rintro _ _ ⟨b1, rfl, rfl⟩
  refine Gx.val rfl rfl rfl (val_assign rfl rfl) ?_
  refine Gx.done ?_
  refine Gx.thenN ?_
  refine Gx.seq ?_
  refine Gx.seq ?_
  refine Gx.regionQ Try.mixed (by kernel_rfl) ?_
  refine Gq.val rfl rfl rfl (val_move rfl rfl) ?_
  refine Gq.val rfl rfl rfl (Val.cast (val_fieldAddr rfl Try.underlying24 rfl Try.ty3 rfl rfl) (v' := ptr b1 1) rfl) ?_
  refine Gq.val rfl rfl rfl (val_load rfl Try.ty3 rfl rfl (cell_rec (k := 0) rfl rfl)) ?_
  refine Gq.val rfl rfl rfl (val_nilCheck rfl rfl) ?_
  refine Gq.val rfl rfl rfl (Val.cast (val_fieldAddr rfl Try.underlying47 rfl Try.ty45 rfl rfl) (v' := ptr S 2) rfl) ?_
  refine Gq.val rfl rfl rfl (Val.cast (val_ixaA rfl Try.underlying45 Try.ty44 rfl rfl (j := 1) (rfl) (by omega)) (v' := ptr S 3) rfl) ?_
  refine Gq.val rfl rfl rfl (val_load rfl Try.ty44 rfl rfl (cell_rec (k := 1) rfl rfl)) ?_
  refine Gq.val rfl rfl rfl (Val.cast (val_neqP rfl Try.underlying44 (by kernel_rfl) rfl rfl) (v' := .bool true) rfl) ?_
  refine Gq.done ?_
  refine Gx.thenN ?_
  refine Gx.t rfl ?_
  refine Gx.seq ?_
  refine Gx.region ?_
  refine Gx.val rfl rfl rfl (val_assign rfl rfl) ?_
  refine Gx.done ?_
  refine Gx.thenN ?_
  refine Gx.ret ?_
  refine Gx.thenR ?_
  refine Gx.drop 0 rfl ?_
  refine Gx.ret1 Try.results14 rfl ?_
  exact ⟨rfl, regP_shut (a1 := some k)⟩

theorem begin_yes1 {W w : World} {S mom : Nat} {a0 a2 a3 : Option Nat} {cv ov : Value} {cs : List Sd} {mo : List Om} {R : Hp} {kd lo sr val : Int} {wr : Bool} (h0 : ∀ k, a0 = some k → k < mo.length) (h2 : ∀ k, a2 = some k → k < mo.length) (h3 : ∀ k, a3 = some k → k < mo.length) (hml : mo.length ≤ 1000) (H : Sat W w (regP S [a0, none, a2, a3] cv ov cs mo * R)) :
    Calls Try.prog 14 #[ptr S 0, .agg #[.int .i64 kd, .int .i64 1, .int .i64 lo, .int .i64 sr, .bool wr, .int .i64 val], .int .i64 ((mom : Nat) : Int)] w (Ret W fun v l => ∃ b b2 ov', v = .int .i64 0 ∧ IsS ov' ∧ sep l = regP S [a0, some mo.length, a2, a3] cv ov' cs (mo ++ [⟨b, b2, newO 1 wr val mom⟩]) * R) := by
  refine Gx.enter (l := [Hp.rec_ S [cv, ov, nowV (mo.map Om.b) a0, .pointer none, nowV (mo.map Om.b) a2, nowV (mo.map Om.b) a3], Hp.own Fsd 3 cv cs, Hp.own FP 1 ov (mo.map Om.b), Hp.big opH mo, R]) Try.func14 rfl Try.ntmps14 rfl ((regP_open H)) ?_
  refine Gx.know (m' := [(0, ptr S 0), (1, .agg #[.int .i64 kd, .int .i64 1, .int .i64 lo, .int .i64 sr, .bool wr, .int .i64 val]), (2, .int .i64 ((mom : Nat) : Int))]) (.cons rfl (.cons rfl (.cons rfl .nil))) ?_
  refine Gx.seq ?_
  refine Gx.region ?_
  refine Gx.eff rfl rfl rfl (eff_box rfl rfl (vs := [.int .i64 kd, .int .i64 1, .int .i64 lo, .int .i64 sr, .bool wr, .int .i64 val]) rfl) ?_
  rintro _ _ ⟨b1, rfl, rfl⟩
  refine Gx.val rfl rfl rfl (val_assign rfl rfl) ?_
  refine Gx.done ?_
  refine Gx.thenN ?_
  refine Gx.seq ?_
  refine Gx.seq ?_
  refine Gx.regionQ Try.mixed (by kernel_rfl) ?_
  refine Gq.val rfl rfl rfl (val_move rfl rfl) ?_
  refine Gq.val rfl rfl rfl (Val.cast (val_fieldAddr rfl Try.underlying24 rfl Try.ty3 rfl rfl) (v' := ptr b1 1) rfl) ?_
  refine Gq.val rfl rfl rfl (val_load rfl Try.ty3 rfl rfl (cell_rec (k := 0) rfl rfl)) ?_
  refine Gq.val rfl rfl rfl (val_nilCheck rfl rfl) ?_
  refine Gq.val rfl rfl rfl (Val.cast (val_fieldAddr rfl Try.underlying47 rfl Try.ty45 rfl rfl) (v' := ptr S 2) rfl) ?_
  refine Gq.val rfl rfl rfl (Val.cast (val_ixaA rfl Try.underlying45 Try.ty44 rfl rfl (j := 1) (rfl) (by omega)) (v' := ptr S 3) rfl) ?_
  refine Gq.val rfl rfl rfl (val_load rfl Try.ty44 rfl rfl (cell_rec (k := 1) rfl rfl)) ?_
  refine Gq.val rfl rfl rfl (Val.cast (val_neqP rfl Try.underlying44 (by kernel_rfl) rfl rfl) (v' := .bool false) rfl) ?_
  refine Gq.done ?_
  refine Gx.thenN ?_
  refine Gx.f rfl ?_
  refine Gx.skip ?_
  refine Gx.thenN ?_
  refine Gx.seq ?_
  refine Gx.region ?_
  refine Gx.val rfl rfl rfl (Val.cast (val_fieldAddr rfl Try.underlying24 rfl Try.ty3 rfl rfl) (v' := ptr b1 1) rfl) ?_
  refine Gx.val rfl rfl rfl (val_load rfl Try.ty3 rfl rfl (cell_rec (k := 0) rfl rfl)) ?_
  refine Gx.val rfl rfl rfl (Val.cast (val_fieldAddr rfl Try.underlying24 rfl Try.ty4 rfl rfl) (v' := ptr b1 4) rfl) ?_
  refine Gx.val rfl rfl rfl (val_load rfl Try.ty4 rfl rfl (cell_rec (k := 0) rfl rfl)) ?_
  refine Gx.val rfl rfl rfl (val_move rfl rfl) ?_
  refine Gx.val rfl rfl rfl (val_build rfl (qs := [(0, .int .i64 1), (2, .bool wr), (4, .int .i64 ((mom : Nat) : Int)), (5, .int .i64 (-1))]) rfl rfl (fun w => by go_simp) (v := .agg #[.int .i64 1, .int .i64 0, .bool wr, .int .i64 0, .int .i64 ((mom : Nat) : Int), .int .i64 (-1)])) ?_
  refine Gx.eff rfl rfl rfl (eff_box rfl rfl (vs := [.int .i64 1, .int .i64 0, .bool wr, .int .i64 0, .int .i64 ((mom : Nat) : Int), .int .i64 (-1)]) rfl) ?_
  rintro _ _ ⟨b2, rfl, rfl⟩
  refine Gx.val rfl rfl rfl (val_build rfl (qs := [(0, ptr b2 0)]) rfl rfl (fun w => by go_simp) (v := .agg #[ptr b2 0, .int .i64 0, .int .i64 0, .int .i64 0, .bool false, .int .u32 0, .int .i64 0])) ?_
  refine Gx.eff rfl rfl rfl (eff_box rfl rfl (vs := [ptr b2 0, .int .i64 0, .int .i64 0, .int .i64 0, .bool false, .int .u32 0, .int .i64 0]) rfl) ?_
  rintro _ _ ⟨b3, rfl, rfl⟩
  refine Gx.val rfl rfl rfl (val_assign rfl rfl) ?_
  refine Gx.done ?_
  refine Gx.thenN ?_
  refine Gx.seq ?_
  refine Gx.seq ?_
  refine Gx.region ?_
  refine Gx.val rfl rfl rfl (Val.cast (val_fieldAddr rfl Try.underlying24 rfl Try.ty4 rfl rfl) (v' := ptr b1 4) rfl) ?_
  refine Gx.val rfl rfl rfl (val_load rfl Try.ty4 rfl rfl (cell_rec (k := 2) rfl rfl)) ?_
  refine Gx.done ?_
  refine Gx.thenN ?_
  refine Gx.bool rfl (fun h4 => ?_) (fun h4 => ?_)
  · refine Gx.regionO (fun j => false) 8 [0, 1, 2, 3, 4, 5, 6, 7] (fun _ => [Hp.rec_ b3 [ptr b2 0, .int .i64 0, .int .i64 0, .int .i64 0, .bool false, .int .u32 0, .int .i64 0], Hp.rec_ b2 [.int .i64 1, .int .i64 0, .bool wr, .int .i64 0, .int .i64 ((mom : Nat) : Int), .int .i64 (-1)], Hp.rec_ b1 [.int .i64 kd, .int .i64 1, .int .i64 lo, .int .i64 sr, .bool wr, .int .i64 val], Hp.rec_ S [cv, ov, nowV (mo.map Om.b) a0, .pointer none, nowV (mo.map Om.b) a2, nowV (mo.map Om.b) a3], Hp.own Fsd 3 cv cs, Hp.own FP 1 ov (mo.map Om.b), Hp.big opH mo, R]) Try.mixed (by kernel_rfl) rfl ?_
    refine Gw.val rfl rfl rfl rfl rfl (fun us => val_move rfl rfl) ?_
    refine Gw.val rfl rfl rfl rfl rfl (fun us => val_nilCheck rfl rfl) ?_
    refine Gw.val rfl rfl rfl rfl rfl (fun us => Val.cast (val_fieldAddr rfl Try.underlying54 rfl Try.ty49 rfl rfl) (v' := ptr b3 0) rfl) ?_
    refine Gw.val0 rfl rfl rfl (by kernel_rfl) rfl rfl (val_load rfl Try.ty49 rfl rfl (cell_rec (k := 0) rfl rfl)) ?_
    refine Gw.val rfl rfl rfl rfl rfl (fun us => Val.cast (val_fieldAddr rfl Try.underlying24 rfl Try.ty2 rfl rfl) (v' := ptr b1 5) rfl) ?_
    refine Gw.val0 rfl rfl rfl (by kernel_rfl) rfl rfl (val_load rfl Try.ty2 rfl rfl (cell_rec (k := 2) rfl rfl)) ?_
    refine Gw.val rfl rfl rfl rfl rfl (fun us => val_nilCheck rfl rfl) ?_
    refine Gw.val rfl rfl rfl rfl rfl (fun us => Val.cast (val_fieldAddr rfl Try.underlying33 rfl Try.ty2 rfl rfl) (v' := ptr b2 3) rfl) ?_
    refine Gw.done ?_
    refine Gx.norm (l' := [Hp.rec_ b3 [ptr b2 0, .int .i64 0, .int .i64 0, .int .i64 0, .bool false, .int .u32 0, .int .i64 0], Hp.rec_ b2 [.int .i64 1, .int .i64 0, .bool wr, .int .i64 0, .int .i64 ((mom : Nat) : Int), .int .i64 (-1)], Hp.rec_ b1 [.int .i64 kd, .int .i64 1, .int .i64 lo, .int .i64 sr, .bool wr, .int .i64 val], Hp.rec_ S [cv, ov, nowV (mo.map Om.b) a0, .pointer none, nowV (mo.map Om.b) a2, nowV (mo.map Om.b) a3], Hp.own Fsd 3 cv cs, Hp.own FP 1 ov (mo.map Om.b), Hp.big opH mo, R]) rfl ?_
    refine Gx.eff0 rfl rfl (eff_store rfl Try.ty2 rfl rfl (us := [.int .i64 val]) rfl rfl rfl (k := 1) rfl (rfl) (vs' := [.int .i64 1, .int .i64 0, .bool wr, .int .i64 val, .int .i64 ((mom : Nat) : Int), .int .i64 (-1)]) (rfl) (l' := [Hp.rec_ b3 [ptr b2 0, .int .i64 0, .int .i64 0, .int .i64 0, .bool false, .int .u32 0, .int .i64 0], Hp.rec_ b2 [.int .i64 1, .int .i64 0, .bool wr, .int .i64 val, .int .i64 ((mom : Nat) : Int), .int .i64 (-1)], Hp.rec_ b1 [.int .i64 kd, .int .i64 1, .int .i64 lo, .int .i64 sr, .bool wr, .int .i64 val], Hp.rec_ S [cv, ov, nowV (mo.map Om.b) a0, .pointer none, nowV (mo.map Om.b) a2, nowV (mo.map Om.b) a3], Hp.own Fsd 3 cv cs, Hp.own FP 1 ov (mo.map Om.b), Hp.big opH mo, R]) rfl) ?_
    rintro _ _ rfl
    refine Gx.done ?_
    refine Gx.thenN ?_
    refine Gx.seq ?_
    refine Gx.region ?_
    refine Gx.val rfl rfl rfl (val_move rfl rfl) ?_
    refine Gx.val rfl rfl rfl (val_move rfl rfl) ?_
    refine Gx.val rfl rfl rfl (val_nilCheck rfl rfl) ?_
    refine Gx.val rfl rfl rfl (Val.cast (val_fieldAddr rfl Try.underlying47 rfl Try.ty43 rfl rfl) (v' := ptr S 1) rfl) ?_
    refine Gx.val rfl rfl rfl (val_load rfl Try.ty43 rfl rfl (cell_rec (k := 3) rfl rfl)) ?_
    refine Gx.val rfl rfl rfl (val_move rfl rfl) ?_
    refine Gx.eff rfl rfl rfl (eff_buildSlice rfl (qs := [(0, ptr b3 0)]) rfl rfl (cs := #[ptr b3 0]) (vs := [ptr b3 0]) (E := 44) rfl (fun w => by first | (go_simp; done) | (go_simp; rfl))) ?_
    rintro _ _ ⟨b5, rfl, rfl⟩
    refine Gx.eff rfl rfl rfl (eff_push (r := b3) rfl Try.eP FP_len FP_one rfl rfl (k := 0) rfl rfl (k' := 5) rfl (by rw [List.length_map]; omega) (by rw [List.length_map]; omega)) ?_
    rintro v6 _ ⟨hiv6, rfl⟩
    refine Gx.norm (l' := [Hp.rec_ b3 [ptr b2 0, .int .i64 0, .int .i64 0, .int .i64 0, .bool false, .int .u32 0, .int .i64 0], Hp.rec_ b2 [.int .i64 1, .int .i64 0, .bool wr, .int .i64 val, .int .i64 ((mom : Nat) : Int), .int .i64 (-1)], Hp.rec_ b1 [.int .i64 kd, .int .i64 1, .int .i64 lo, .int .i64 sr, .bool wr, .int .i64 val], Hp.rec_ S [cv, ov, nowV (mo.map Om.b) a0, .pointer none, nowV (mo.map Om.b) a2, nowV (mo.map Om.b) a3], Hp.own Fsd 3 cv cs, Hp.own FP 1 v6 ((mo.map Om.b) ++ [b3]), Hp.big opH mo, R]) rfl ?_
    refine Gx.val rfl rfl rfl (val_nilCheck rfl rfl) ?_
    refine Gx.val rfl rfl rfl (Val.cast (val_fieldAddr rfl Try.underlying47 rfl Try.ty43 rfl rfl) (v' := ptr S 1) rfl) ?_
    refine Gx.eff0 rfl rfl (eff_store rfl Try.ty43 rfl rfl (us := [v6]) hiv6.cellsL rfl hiv6.all (k := 3) rfl (rfl) (vs' := [cv, v6, nowV (mo.map Om.b) a0, .pointer none, nowV (mo.map Om.b) a2, nowV (mo.map Om.b) a3]) (rfl) (l' := [Hp.rec_ b3 [ptr b2 0, .int .i64 0, .int .i64 0, .int .i64 0, .bool false, .int .u32 0, .int .i64 0], Hp.rec_ b2 [.int .i64 1, .int .i64 0, .bool wr, .int .i64 val, .int .i64 ((mom : Nat) : Int), .int .i64 (-1)], Hp.rec_ b1 [.int .i64 kd, .int .i64 1, .int .i64 lo, .int .i64 sr, .bool wr, .int .i64 val], Hp.rec_ S [cv, v6, nowV (mo.map Om.b) a0, .pointer none, nowV (mo.map Om.b) a2, nowV (mo.map Om.b) a3], Hp.own Fsd 3 cv cs, Hp.own FP 1 v6 ((mo.map Om.b) ++ [b3]), Hp.big opH mo, R]) rfl) ?_
    rintro _ _ rfl
    refine Gx.done ?_
    refine Gx.thenN ?_
    refine Gx.seq ?_
    refine Gx.regionO (fun j => false) 7 [0, 1, 2, 3, 4, 5, 6] (fun _ => [Hp.rec_ b3 [ptr b2 0, .int .i64 0, .int .i64 0, .int .i64 0, .bool false, .int .u32 0, .int .i64 0], Hp.rec_ b2 [.int .i64 1, .int .i64 0, .bool wr, .int .i64 val, .int .i64 ((mom : Nat) : Int), .int .i64 (-1)], Hp.rec_ b1 [.int .i64 kd, .int .i64 1, .int .i64 lo, .int .i64 sr, .bool wr, .int .i64 val], Hp.rec_ S [cv, v6, nowV (mo.map Om.b) a0, .pointer none, nowV (mo.map Om.b) a2, nowV (mo.map Om.b) a3], Hp.own Fsd 3 cv cs, Hp.own FP 1 v6 ((mo.map Om.b) ++ [b3]), Hp.big opH mo, R]) Try.mixed (by kernel_rfl) rfl ?_
    refine Gw.val rfl rfl rfl rfl rfl (fun us => val_move rfl rfl) ?_
    refine Gw.val rfl rfl rfl rfl rfl (fun us => Val.cast (val_fieldAddr rfl Try.underlying24 rfl Try.ty3 rfl rfl) (v' := ptr b1 1) rfl) ?_
    refine Gw.val0 rfl rfl rfl (by kernel_rfl) rfl rfl (val_load rfl Try.ty3 rfl rfl (cell_rec (k := 2) rfl rfl)) ?_
    refine Gw.val rfl rfl rfl rfl rfl (fun us => val_move rfl rfl) ?_
    refine Gw.val rfl rfl rfl rfl rfl (fun us => val_nilCheck rfl rfl) ?_
    refine Gw.val rfl rfl rfl rfl rfl (fun us => Val.cast (val_fieldAddr rfl Try.underlying47 rfl Try.ty45 rfl rfl) (v' := ptr S 2) rfl) ?_
    refine Gw.val rfl rfl rfl rfl rfl (fun us => Val.cast (val_ixaA rfl Try.underlying45 Try.ty44 rfl rfl (j := 1) (rfl) (by omega)) (v' := ptr S 3) rfl) ?_
    refine Gw.done ?_
    refine Gx.norm (l' := [Hp.rec_ b3 [ptr b2 0, .int .i64 0, .int .i64 0, .int .i64 0, .bool false, .int .u32 0, .int .i64 0], Hp.rec_ b2 [.int .i64 1, .int .i64 0, .bool wr, .int .i64 val, .int .i64 ((mom : Nat) : Int), .int .i64 (-1)], Hp.rec_ b1 [.int .i64 kd, .int .i64 1, .int .i64 lo, .int .i64 sr, .bool wr, .int .i64 val], Hp.rec_ S [cv, v6, nowV (mo.map Om.b) a0, .pointer none, nowV (mo.map Om.b) a2, nowV (mo.map Om.b) a3], Hp.own Fsd 3 cv cs, Hp.own FP 1 v6 ((mo.map Om.b) ++ [b3]), Hp.big opH mo, R]) rfl ?_
    refine Gx.eff0 rfl rfl (eff_store rfl Try.ty44 rfl rfl (us := [ptr b3 0]) rfl rfl rfl (k := 3) rfl (rfl) (vs' := [cv, v6, nowV (mo.map Om.b) a0, ptr b3 0, nowV (mo.map Om.b) a2, nowV (mo.map Om.b) a3]) (rfl) (l' := [Hp.rec_ b3 [ptr b2 0, .int .i64 0, .int .i64 0, .int .i64 0, .bool false, .int .u32 0, .int .i64 0], Hp.rec_ b2 [.int .i64 1, .int .i64 0, .bool wr, .int .i64 val, .int .i64 ((mom : Nat) : Int), .int .i64 (-1)], Hp.rec_ b1 [.int .i64 kd, .int .i64 1, .int .i64 lo, .int .i64 sr, .bool wr, .int .i64 val], Hp.rec_ S [cv, v6, nowV (mo.map Om.b) a0, ptr b3 0, nowV (mo.map Om.b) a2, nowV (mo.map Om.b) a3], Hp.own Fsd 3 cv cs, Hp.own FP 1 v6 ((mo.map Om.b) ++ [b3]), Hp.big opH mo, R]) rfl) ?_
    rintro _ _ rfl
    refine Gx.done ?_
    refine Gx.thenN ?_
    refine Gx.seq ?_
    refine Gx.region ?_
    refine Gx.val rfl rfl rfl (val_assign rfl rfl) ?_
    refine Gx.done ?_
    refine Gx.thenN ?_
    refine Gx.ret ?_
    refine Gx.drop 2 rfl ?_
    refine Gx.front 6 rfl ?_
    refine Gx.front 2 rfl ?_
    refine Gx.front 2 rfl ?_
    refine Gx.front 6 rfl ?_
    refine Gx.front 6 rfl ?_
    refine Gx.front 6 rfl ?_
    refine Gx.front 6 rfl ?_
    have hbs : (mo ++ [(⟨b3, b2, newO 1 wr val mom⟩ : Om)]).map Om.b = mo.map Om.b ++ [b3] := by simp
    have e0 : nowV (mo.map Om.b) a0 = nowV ((mo ++ [(⟨b3, b2, newO 1 wr val mom⟩ : Om)]).map Om.b) a0 := by rw [hbs, nowV_more]; intro k hk; rw [List.length_map]; exact h0 k hk
    have e2 : nowV (mo.map Om.b) a2 = nowV ((mo ++ [(⟨b3, b2, newO 1 wr val mom⟩ : Om)]).map Om.b) a2 := by rw [hbs, nowV_more]; intro k hk; rw [List.length_map]; exact h2 k hk
    have e3 : nowV (mo.map Om.b) a3 = nowV ((mo ++ [(⟨b3, b2, newO 1 wr val mom⟩ : Om)]).map Om.b) a3 := by rw [hbs, nowV_more]; intro k hk; rw [List.length_map]; exact h3 k hk
    have e1 : ptr b3 0 = nowV ((mo ++ [(⟨b3, b2, newO 1 wr val mom⟩ : Om)]).map Om.b) (some mo.length) := by rw [hbs, show mo.length = (mo.map Om.b).length from by simp, nowV_last]
    have hbig : Hp.big opH (mo ++ [(⟨b3, b2, newO 1 wr val mom⟩ : Om)]) = Hp.big opH mo * opH (⟨b3, b2, newO 1 wr val mom⟩ : Om) := by rw [Hp.big_append]; show _ * (_ * 1) = _; rw [Hp.mul_one]
    refine Gx.ret1 Try.results14 rfl ?_
    refine ⟨b3, b2, v6, rfl, hiv6, ?_⟩
    rw [← regP_shut, hbig, ← e0, ← e1, ← e2, ← e3, hbs]
    simp only [newO, h4, if_true, Bool.false_eq_true, if_false, opH, mk_nil]
    show _ * (_ * (_ * (_ * (_ * (_ * (_ * 1)))))) = _ * (_ * (_ * (_ * (_ * 1))))
    simp only [Hp.mul_assoc, Hp.mul_one]
    rfl
  · refine Gx.skip ?_
    refine Gx.thenN ?_
    refine Gx.seq ?_
    refine Gx.region ?_
    refine Gx.val rfl rfl rfl (val_move rfl rfl) ?_
    refine Gx.val rfl rfl rfl (val_move rfl rfl) ?_
    refine Gx.val rfl rfl rfl (val_nilCheck rfl rfl) ?_
    refine Gx.val rfl rfl rfl (Val.cast (val_fieldAddr rfl Try.underlying47 rfl Try.ty43 rfl rfl) (v' := ptr S 1) rfl) ?_
    refine Gx.val rfl rfl rfl (val_load rfl Try.ty43 rfl rfl (cell_rec (k := 3) rfl rfl)) ?_
    refine Gx.val rfl rfl rfl (val_move rfl rfl) ?_
    refine Gx.eff rfl rfl rfl (eff_buildSlice rfl (qs := [(0, ptr b3 0)]) rfl rfl (cs := #[ptr b3 0]) (vs := [ptr b3 0]) (E := 44) rfl (fun w => by first | (go_simp; done) | (go_simp; rfl))) ?_
    rintro _ _ ⟨b7, rfl, rfl⟩
    refine Gx.eff rfl rfl rfl (eff_push (r := b3) rfl Try.eP FP_len FP_one rfl rfl (k := 0) rfl rfl (k' := 5) rfl (by rw [List.length_map]; omega) (by rw [List.length_map]; omega)) ?_
    rintro v8 _ ⟨hiv8, rfl⟩
    refine Gx.norm (l' := [Hp.rec_ b3 [ptr b2 0, .int .i64 0, .int .i64 0, .int .i64 0, .bool false, .int .u32 0, .int .i64 0], Hp.rec_ b2 [.int .i64 1, .int .i64 0, .bool wr, .int .i64 0, .int .i64 ((mom : Nat) : Int), .int .i64 (-1)], Hp.rec_ b1 [.int .i64 kd, .int .i64 1, .int .i64 lo, .int .i64 sr, .bool wr, .int .i64 val], Hp.rec_ S [cv, ov, nowV (mo.map Om.b) a0, .pointer none, nowV (mo.map Om.b) a2, nowV (mo.map Om.b) a3], Hp.own Fsd 3 cv cs, Hp.own FP 1 v8 ((mo.map Om.b) ++ [b3]), Hp.big opH mo, R]) rfl ?_
    refine Gx.val rfl rfl rfl (val_nilCheck rfl rfl) ?_
    refine Gx.val rfl rfl rfl (Val.cast (val_fieldAddr rfl Try.underlying47 rfl Try.ty43 rfl rfl) (v' := ptr S 1) rfl) ?_
    refine Gx.eff0 rfl rfl (eff_store rfl Try.ty43 rfl rfl (us := [v8]) hiv8.cellsL rfl hiv8.all (k := 3) rfl (rfl) (vs' := [cv, v8, nowV (mo.map Om.b) a0, .pointer none, nowV (mo.map Om.b) a2, nowV (mo.map Om.b) a3]) (rfl) (l' := [Hp.rec_ b3 [ptr b2 0, .int .i64 0, .int .i64 0, .int .i64 0, .bool false, .int .u32 0, .int .i64 0], Hp.rec_ b2 [.int .i64 1, .int .i64 0, .bool wr, .int .i64 0, .int .i64 ((mom : Nat) : Int), .int .i64 (-1)], Hp.rec_ b1 [.int .i64 kd, .int .i64 1, .int .i64 lo, .int .i64 sr, .bool wr, .int .i64 val], Hp.rec_ S [cv, v8, nowV (mo.map Om.b) a0, .pointer none, nowV (mo.map Om.b) a2, nowV (mo.map Om.b) a3], Hp.own Fsd 3 cv cs, Hp.own FP 1 v8 ((mo.map Om.b) ++ [b3]), Hp.big opH mo, R]) rfl) ?_
    rintro _ _ rfl
    refine Gx.done ?_
    refine Gx.thenN ?_
    refine Gx.seq ?_
    refine Gx.regionO (fun j => false) 7 [0, 1, 2, 3, 4, 5, 6] (fun _ => [Hp.rec_ b3 [ptr b2 0, .int .i64 0, .int .i64 0, .int .i64 0, .bool false, .int .u32 0, .int .i64 0], Hp.rec_ b2 [.int .i64 1, .int .i64 0, .bool wr, .int .i64 0, .int .i64 ((mom : Nat) : Int), .int .i64 (-1)], Hp.rec_ b1 [.int .i64 kd, .int .i64 1, .int .i64 lo, .int .i64 sr, .bool wr, .int .i64 val], Hp.rec_ S [cv, v8, nowV (mo.map Om.b) a0, .pointer none, nowV (mo.map Om.b) a2, nowV (mo.map Om.b) a3], Hp.own Fsd 3 cv cs, Hp.own FP 1 v8 ((mo.map Om.b) ++ [b3]), Hp.big opH mo, R]) Try.mixed (by kernel_rfl) rfl ?_
    refine Gw.val rfl rfl rfl rfl rfl (fun us => val_move rfl rfl) ?_
    refine Gw.val rfl rfl rfl rfl rfl (fun us => Val.cast (val_fieldAddr rfl Try.underlying24 rfl Try.ty3 rfl rfl) (v' := ptr b1 1) rfl) ?_
    refine Gw.val0 rfl rfl rfl (by kernel_rfl) rfl rfl (val_load rfl Try.ty3 rfl rfl (cell_rec (k := 2) rfl rfl)) ?_
    refine Gw.val rfl rfl rfl rfl rfl (fun us => val_move rfl rfl) ?_
    refine Gw.val rfl rfl rfl rfl rfl (fun us => val_nilCheck rfl rfl) ?_
    refine Gw.val rfl rfl rfl rfl rfl (fun us => Val.cast (val_fieldAddr rfl Try.underlying47 rfl Try.ty45 rfl rfl) (v' := ptr S 2) rfl) ?_
    refine Gw.val rfl rfl rfl rfl rfl (fun us => Val.cast (val_ixaA rfl Try.underlying45 Try.ty44 rfl rfl (j := 1) (rfl) (by omega)) (v' := ptr S 3) rfl) ?_
    refine Gw.done ?_
    refine Gx.norm (l' := [Hp.rec_ b3 [ptr b2 0, .int .i64 0, .int .i64 0, .int .i64 0, .bool false, .int .u32 0, .int .i64 0], Hp.rec_ b2 [.int .i64 1, .int .i64 0, .bool wr, .int .i64 0, .int .i64 ((mom : Nat) : Int), .int .i64 (-1)], Hp.rec_ b1 [.int .i64 kd, .int .i64 1, .int .i64 lo, .int .i64 sr, .bool wr, .int .i64 val], Hp.rec_ S [cv, v8, nowV (mo.map Om.b) a0, .pointer none, nowV (mo.map Om.b) a2, nowV (mo.map Om.b) a3], Hp.own Fsd 3 cv cs, Hp.own FP 1 v8 ((mo.map Om.b) ++ [b3]), Hp.big opH mo, R]) rfl ?_
    refine Gx.eff0 rfl rfl (eff_store rfl Try.ty44 rfl rfl (us := [ptr b3 0]) rfl rfl rfl (k := 3) rfl (rfl) (vs' := [cv, v8, nowV (mo.map Om.b) a0, ptr b3 0, nowV (mo.map Om.b) a2, nowV (mo.map Om.b) a3]) (rfl) (l' := [Hp.rec_ b3 [ptr b2 0, .int .i64 0, .int .i64 0, .int .i64 0, .bool false, .int .u32 0, .int .i64 0], Hp.rec_ b2 [.int .i64 1, .int .i64 0, .bool wr, .int .i64 0, .int .i64 ((mom : Nat) : Int), .int .i64 (-1)], Hp.rec_ b1 [.int .i64 kd, .int .i64 1, .int .i64 lo, .int .i64 sr, .bool wr, .int .i64 val], Hp.rec_ S [cv, v8, nowV (mo.map Om.b) a0, ptr b3 0, nowV (mo.map Om.b) a2, nowV (mo.map Om.b) a3], Hp.own Fsd 3 cv cs, Hp.own FP 1 v8 ((mo.map Om.b) ++ [b3]), Hp.big opH mo, R]) rfl) ?_
    rintro _ _ rfl
    refine Gx.done ?_
    refine Gx.thenN ?_
    refine Gx.seq ?_
    refine Gx.region ?_
    refine Gx.val rfl rfl rfl (val_assign rfl rfl) ?_
    refine Gx.done ?_
    refine Gx.thenN ?_
    refine Gx.ret ?_
    refine Gx.drop 2 rfl ?_
    refine Gx.front 6 rfl ?_
    refine Gx.front 2 rfl ?_
    refine Gx.front 2 rfl ?_
    refine Gx.front 6 rfl ?_
    refine Gx.front 6 rfl ?_
    refine Gx.front 6 rfl ?_
    refine Gx.front 6 rfl ?_
    have hbs : (mo ++ [(⟨b3, b2, newO 1 wr val mom⟩ : Om)]).map Om.b = mo.map Om.b ++ [b3] := by simp
    have e0 : nowV (mo.map Om.b) a0 = nowV ((mo ++ [(⟨b3, b2, newO 1 wr val mom⟩ : Om)]).map Om.b) a0 := by rw [hbs, nowV_more]; intro k hk; rw [List.length_map]; exact h0 k hk
    have e2 : nowV (mo.map Om.b) a2 = nowV ((mo ++ [(⟨b3, b2, newO 1 wr val mom⟩ : Om)]).map Om.b) a2 := by rw [hbs, nowV_more]; intro k hk; rw [List.length_map]; exact h2 k hk
    have e3 : nowV (mo.map Om.b) a3 = nowV ((mo ++ [(⟨b3, b2, newO 1 wr val mom⟩ : Om)]).map Om.b) a3 := by rw [hbs, nowV_more]; intro k hk; rw [List.length_map]; exact h3 k hk
    have e1 : ptr b3 0 = nowV ((mo ++ [(⟨b3, b2, newO 1 wr val mom⟩ : Om)]).map Om.b) (some mo.length) := by rw [hbs, show mo.length = (mo.map Om.b).length from by simp, nowV_last]
    have hbig : Hp.big opH (mo ++ [(⟨b3, b2, newO 1 wr val mom⟩ : Om)]) = Hp.big opH mo * opH (⟨b3, b2, newO 1 wr val mom⟩ : Om) := by rw [Hp.big_append]; show _ * (_ * 1) = _; rw [Hp.mul_one]
    refine Gx.ret1 Try.results14 rfl ?_
    refine ⟨b3, b2, v8, rfl, hiv8, ?_⟩
    rw [← regP_shut, hbig, ← e0, ← e1, ← e2, ← e3, hbs]
    simp only [newO, h4, if_true, Bool.false_eq_true, if_false, opH, mk_nil]
    show _ * (_ * (_ * (_ * (_ * (_ * (_ * 1)))))) = _ * (_ * (_ * (_ * (_ * 1))))
    simp only [Hp.mul_assoc, Hp.mul_one]
    rfl

theorem begin_no2 {W w : World} {S k mom : Nat} {a0 a1 a3 : Option Nat} {cv ov : Value} {cs : List Sd} {mo : List Om} {R : Hp} {kd lo sr val : Int} {wr : Bool} (H : Sat W w (regP S [a0, a1, some k, a3] cv ov cs mo * R)) :
    Calls Try.prog 14 #[ptr S 0, .agg #[.int .i64 kd, .int .i64 2, .int .i64 lo, .int .i64 sr, .bool wr, .int .i64 val], .int .i64 ((mom : Nat) : Int)] w (Ret W fun v l => v = .int .i64 6 ∧ sep l = regP S [a0, a1, some k, a3] cv ov cs mo * R) := by
  refine Gx.enter (l := [Hp.rec_ S [cv, ov, nowV (mo.map Om.b) a0, nowV (mo.map Om.b) a1, ptr ((mo.map Om.b).getD k 0) 0, nowV (mo.map Om.b) a3], Hp.own Fsd 3 cv cs, Hp.own FP 1 ov (mo.map Om.b), Hp.big opH mo, R]) Try.func14 rfl Try.ntmps14 rfl ((regP_open H)) ?_
  refine Gx.know (m' := [(0, ptr S 0), (1, .agg #[.int .i64 kd, .int .i64 2, .int .i64 lo, .int .i64 sr, .bool wr, .int .i64 val]), (2, .int .i64 ((mom : Nat) : Int))]) (.cons rfl (.cons rfl (.cons rfl .nil))) ?_
  refine Gx.seq ?_
  refine Gx.region ?_
  refine Gx.eff rfl rfl rfl (eff_box rfl rfl (vs := [.int .i64 kd, .int .i64 2, .int .i64 lo, .int .i64 sr, .bool wr, .int .i64 val]) rfl) ?_
  rintro _ _ ⟨b1, rfl, rfl⟩
  refine Gx.val rfl rfl rfl (val_assign rfl rfl) ?_
  refine Gx.done ?_
  refine Gx.thenN ?_
  refine Gx.seq ?_
  refine Gx.seq ?_
  refine Gx.regionQ Try.mixed (by kernel_rfl) ?_
  refine Gq.val rfl rfl rfl (val_move rfl rfl) ?_
  refine Gq.val rfl rfl rfl (Val.cast (val_fieldAddr rfl Try.underlying24 rfl Try.ty3 rfl rfl) (v' := ptr b1 1) rfl) ?_
  refine Gq.val rfl rfl rfl (val_load rfl Try.ty3 rfl rfl (cell_rec (k := 0) rfl rfl)) ?_
  refine Gq.val rfl rfl rfl (val_nilCheck rfl rfl) ?_
  refine Gq.val rfl rfl rfl (Val.cast (val_fieldAddr rfl Try.underlying47 rfl Try.ty45 rfl rfl) (v' := ptr S 2) rfl) ?_
  refine Gq.val rfl rfl rfl (Val.cast (val_ixaA rfl Try.underlying45 Try.ty44 rfl rfl (j := 2) (rfl) (by omega)) (v' := ptr S 4) rfl) ?_
  refine Gq.val rfl rfl rfl (val_load rfl Try.ty44 rfl rfl (cell_rec (k := 1) rfl rfl)) ?_
  refine Gq.val rfl rfl rfl (Val.cast (val_neqP rfl Try.underlying44 (by kernel_rfl) rfl rfl) (v' := .bool true) rfl) ?_
  refine Gq.done ?_
  refine Gx.thenN ?_
  refine Gx.t rfl ?_
  refine Gx.seq ?_
  refine Gx.region ?_
  refine Gx.val rfl rfl rfl (val_assign rfl rfl) ?_
  refine Gx.done ?_
  refine Gx.thenN ?_
  refine Gx.ret ?_
  refine Gx.thenR ?_
  refine Gx.drop 0 rfl ?_
  refine Gx.ret1 Try.results14 rfl ?_
  exact ⟨rfl, regP_shut (a2 := some k)⟩

theorem begin_yes2 {W w : World} {S mom : Nat} {a0 a1 a3 : Option Nat} {cv ov : Value} {cs : List Sd} {mo : List Om} {R : Hp} {kd lo sr val : Int} {wr : Bool} (h0 : ∀ k, a0 = some k → k < mo.length) (h1 : ∀ k, a1 = some k → k < mo.length) (h3 : ∀ k, a3 = some k → k < mo.length) (hml : mo.length ≤ 1000) (H : Sat W w (regP S [a0, a1, none, a3] cv ov cs mo * R)) :
    Calls Try.prog 14 #[ptr S 0, .agg #[.int .i64 kd, .int .i64 2, .int .i64 lo, .int .i64 sr, .bool wr, .int .i64 val], .int .i64 ((mom : Nat) : Int)] w (Ret W fun v l => ∃ b b2 ov', v = .int .i64 0 ∧ IsS ov' ∧ sep l = regP S [a0, a1, some mo.length, a3] cv ov' cs (mo ++ [⟨b, b2, newO 2 wr val mom⟩]) * R) := by
  refine Gx.enter (l := [Hp.rec_ S [cv, ov, nowV (mo.map Om.b) a0, nowV (mo.map Om.b) a1, .pointer none, nowV (mo.map Om.b) a3], Hp.own Fsd 3 cv cs, Hp.own FP 1 ov (mo.map Om.b), Hp.big opH mo, R]) Try.func14 rfl Try.ntmps14 rfl ((regP_open H)) ?_
  refine Gx.know (m' := [(0, ptr S 0), (1, .agg #[.int .i64 kd, .int .i64 2, .int .i64 lo, .int .i64 sr, .bool wr, .int .i64 val]), (2, .int .i64 ((mom : Nat) : Int))]) (.cons rfl (.cons rfl (.cons rfl .nil))) ?_
  refine Gx.seq ?_
  refine Gx.region ?_
  refine Gx.eff rfl rfl rfl (eff_box rfl rfl (vs := [.int .i64 kd, .int .i64 2, .int .i64 lo, .int .i64 sr, .bool wr, .int .i64 val]) rfl) ?_
  rintro _ _ ⟨b1, rfl, rfl⟩
  refine Gx.val rfl rfl rfl (val_assign rfl rfl) ?_
  refine Gx.done ?_
  refine Gx.thenN ?_
  refine Gx.seq ?_
  refine Gx.seq ?_
  refine Gx.regionQ Try.mixed (by kernel_rfl) ?_
  refine Gq.val rfl rfl rfl (val_move rfl rfl) ?_
  refine Gq.val rfl rfl rfl (Val.cast (val_fieldAddr rfl Try.underlying24 rfl Try.ty3 rfl rfl) (v' := ptr b1 1) rfl) ?_
  refine Gq.val rfl rfl rfl (val_load rfl Try.ty3 rfl rfl (cell_rec (k := 0) rfl rfl)) ?_
  refine Gq.val rfl rfl rfl (val_nilCheck rfl rfl) ?_
  refine Gq.val rfl rfl rfl (Val.cast (val_fieldAddr rfl Try.underlying47 rfl Try.ty45 rfl rfl) (v' := ptr S 2) rfl) ?_
  refine Gq.val rfl rfl rfl (Val.cast (val_ixaA rfl Try.underlying45 Try.ty44 rfl rfl (j := 2) (rfl) (by omega)) (v' := ptr S 4) rfl) ?_
  refine Gq.val rfl rfl rfl (val_load rfl Try.ty44 rfl rfl (cell_rec (k := 1) rfl rfl)) ?_
  refine Gq.val rfl rfl rfl (Val.cast (val_neqP rfl Try.underlying44 (by kernel_rfl) rfl rfl) (v' := .bool false) rfl) ?_
  refine Gq.done ?_
  refine Gx.thenN ?_
  refine Gx.f rfl ?_
  refine Gx.skip ?_
  refine Gx.thenN ?_
  refine Gx.seq ?_
  refine Gx.region ?_
  refine Gx.val rfl rfl rfl (Val.cast (val_fieldAddr rfl Try.underlying24 rfl Try.ty3 rfl rfl) (v' := ptr b1 1) rfl) ?_
  refine Gx.val rfl rfl rfl (val_load rfl Try.ty3 rfl rfl (cell_rec (k := 0) rfl rfl)) ?_
  refine Gx.val rfl rfl rfl (Val.cast (val_fieldAddr rfl Try.underlying24 rfl Try.ty4 rfl rfl) (v' := ptr b1 4) rfl) ?_
  refine Gx.val rfl rfl rfl (val_load rfl Try.ty4 rfl rfl (cell_rec (k := 0) rfl rfl)) ?_
  refine Gx.val rfl rfl rfl (val_move rfl rfl) ?_
  refine Gx.val rfl rfl rfl (val_build rfl (qs := [(0, .int .i64 2), (2, .bool wr), (4, .int .i64 ((mom : Nat) : Int)), (5, .int .i64 (-1))]) rfl rfl (fun w => by go_simp) (v := .agg #[.int .i64 2, .int .i64 0, .bool wr, .int .i64 0, .int .i64 ((mom : Nat) : Int), .int .i64 (-1)])) ?_
  refine Gx.eff rfl rfl rfl (eff_box rfl rfl (vs := [.int .i64 2, .int .i64 0, .bool wr, .int .i64 0, .int .i64 ((mom : Nat) : Int), .int .i64 (-1)]) rfl) ?_
  rintro _ _ ⟨b2, rfl, rfl⟩
  refine Gx.val rfl rfl rfl (val_build rfl (qs := [(0, ptr b2 0)]) rfl rfl (fun w => by go_simp) (v := .agg #[ptr b2 0, .int .i64 0, .int .i64 0, .int .i64 0, .bool false, .int .u32 0, .int .i64 0])) ?_
  refine Gx.eff rfl rfl rfl (eff_box rfl rfl (vs := [ptr b2 0, .int .i64 0, .int .i64 0, .int .i64 0, .bool false, .int .u32 0, .int .i64 0]) rfl) ?_
  rintro _ _ ⟨b3, rfl, rfl⟩
  refine Gx.val rfl rfl rfl (val_assign rfl rfl) ?_
  refine Gx.done ?_
  refine Gx.thenN ?_
  refine Gx.seq ?_
  refine Gx.seq ?_
  refine Gx.region ?_
  refine Gx.val rfl rfl rfl (Val.cast (val_fieldAddr rfl Try.underlying24 rfl Try.ty4 rfl rfl) (v' := ptr b1 4) rfl) ?_
  refine Gx.val rfl rfl rfl (val_load rfl Try.ty4 rfl rfl (cell_rec (k := 2) rfl rfl)) ?_
  refine Gx.done ?_
  refine Gx.thenN ?_
  refine Gx.bool rfl (fun h4 => ?_) (fun h4 => ?_)
  · refine Gx.regionO (fun j => false) 8 [0, 1, 2, 3, 4, 5, 6, 7] (fun _ => [Hp.rec_ b3 [ptr b2 0, .int .i64 0, .int .i64 0, .int .i64 0, .bool false, .int .u32 0, .int .i64 0], Hp.rec_ b2 [.int .i64 2, .int .i64 0, .bool wr, .int .i64 0, .int .i64 ((mom : Nat) : Int), .int .i64 (-1)], Hp.rec_ b1 [.int .i64 kd, .int .i64 2, .int .i64 lo, .int .i64 sr, .bool wr, .int .i64 val], Hp.rec_ S [cv, ov, nowV (mo.map Om.b) a0, nowV (mo.map Om.b) a1, .pointer none, nowV (mo.map Om.b) a3], Hp.own Fsd 3 cv cs, Hp.own FP 1 ov (mo.map Om.b), Hp.big opH mo, R]) Try.mixed (by kernel_rfl) rfl ?_
    refine Gw.val rfl rfl rfl rfl rfl (fun us => val_move rfl rfl) ?_
    refine Gw.val rfl rfl rfl rfl rfl (fun us => val_nilCheck rfl rfl) ?_
    refine Gw.val rfl rfl rfl rfl rfl (fun us => Val.cast (val_fieldAddr rfl Try.underlying54 rfl Try.ty49 rfl rfl) (v' := ptr b3 0) rfl) ?_
    refine Gw.val0 rfl rfl rfl (by kernel_rfl) rfl rfl (val_load rfl Try.ty49 rfl rfl (cell_rec (k := 0) rfl rfl)) ?_
    refine Gw.val rfl rfl rfl rfl rfl (fun us => Val.cast (val_fieldAddr rfl Try.underlying24 rfl Try.ty2 rfl rfl) (v' := ptr b1 5) rfl) ?_
    refine Gw.val0 rfl rfl rfl (by kernel_rfl) rfl rfl (val_load rfl Try.ty2 rfl rfl (cell_rec (k := 2) rfl rfl)) ?_
    refine Gw.val rfl rfl rfl rfl rfl (fun us => val_nilCheck rfl rfl) ?_
    refine Gw.val rfl rfl rfl rfl rfl (fun us => Val.cast (val_fieldAddr rfl Try.underlying33 rfl Try.ty2 rfl rfl) (v' := ptr b2 3) rfl) ?_
    refine Gw.done ?_
    refine Gx.norm (l' := [Hp.rec_ b3 [ptr b2 0, .int .i64 0, .int .i64 0, .int .i64 0, .bool false, .int .u32 0, .int .i64 0], Hp.rec_ b2 [.int .i64 2, .int .i64 0, .bool wr, .int .i64 0, .int .i64 ((mom : Nat) : Int), .int .i64 (-1)], Hp.rec_ b1 [.int .i64 kd, .int .i64 2, .int .i64 lo, .int .i64 sr, .bool wr, .int .i64 val], Hp.rec_ S [cv, ov, nowV (mo.map Om.b) a0, nowV (mo.map Om.b) a1, .pointer none, nowV (mo.map Om.b) a3], Hp.own Fsd 3 cv cs, Hp.own FP 1 ov (mo.map Om.b), Hp.big opH mo, R]) rfl ?_
    refine Gx.eff0 rfl rfl (eff_store rfl Try.ty2 rfl rfl (us := [.int .i64 val]) rfl rfl rfl (k := 1) rfl (rfl) (vs' := [.int .i64 2, .int .i64 0, .bool wr, .int .i64 val, .int .i64 ((mom : Nat) : Int), .int .i64 (-1)]) (rfl) (l' := [Hp.rec_ b3 [ptr b2 0, .int .i64 0, .int .i64 0, .int .i64 0, .bool false, .int .u32 0, .int .i64 0], Hp.rec_ b2 [.int .i64 2, .int .i64 0, .bool wr, .int .i64 val, .int .i64 ((mom : Nat) : Int), .int .i64 (-1)], Hp.rec_ b1 [.int .i64 kd, .int .i64 2, .int .i64 lo, .int .i64 sr, .bool wr, .int .i64 val], Hp.rec_ S [cv, ov, nowV (mo.map Om.b) a0, nowV (mo.map Om.b) a1, .pointer none, nowV (mo.map Om.b) a3], Hp.own Fsd 3 cv cs, Hp.own FP 1 ov (mo.map Om.b), Hp.big opH mo, R]) rfl) ?_
    rintro _ _ rfl
    refine Gx.done ?_
    refine Gx.thenN ?_
    refine Gx.seq ?_
    refine Gx.region ?_
    refine Gx.val rfl rfl rfl (val_move rfl rfl) ?_
    refine Gx.val rfl rfl rfl (val_move rfl rfl) ?_
    refine Gx.val rfl rfl rfl (val_nilCheck rfl rfl) ?_
    refine Gx.val rfl rfl rfl (Val.cast (val_fieldAddr rfl Try.underlying47 rfl Try.ty43 rfl rfl) (v' := ptr S 1) rfl) ?_
    refine Gx.val rfl rfl rfl (val_load rfl Try.ty43 rfl rfl (cell_rec (k := 3) rfl rfl)) ?_
    refine Gx.val rfl rfl rfl (val_move rfl rfl) ?_
    refine Gx.eff rfl rfl rfl (eff_buildSlice rfl (qs := [(0, ptr b3 0)]) rfl rfl (cs := #[ptr b3 0]) (vs := [ptr b3 0]) (E := 44) rfl (fun w => by first | (go_simp; done) | (go_simp; rfl))) ?_
    rintro _ _ ⟨b5, rfl, rfl⟩
    refine Gx.eff rfl rfl rfl (eff_push (r := b3) rfl Try.eP FP_len FP_one rfl rfl (k := 0) rfl rfl (k' := 5) rfl (by rw [List.length_map]; omega) (by rw [List.length_map]; omega)) ?_
    rintro v6 _ ⟨hiv6, rfl⟩
    refine Gx.norm (l' := [Hp.rec_ b3 [ptr b2 0, .int .i64 0, .int .i64 0, .int .i64 0, .bool false, .int .u32 0, .int .i64 0], Hp.rec_ b2 [.int .i64 2, .int .i64 0, .bool wr, .int .i64 val, .int .i64 ((mom : Nat) : Int), .int .i64 (-1)], Hp.rec_ b1 [.int .i64 kd, .int .i64 2, .int .i64 lo, .int .i64 sr, .bool wr, .int .i64 val], Hp.rec_ S [cv, ov, nowV (mo.map Om.b) a0, nowV (mo.map Om.b) a1, .pointer none, nowV (mo.map Om.b) a3], Hp.own Fsd 3 cv cs, Hp.own FP 1 v6 ((mo.map Om.b) ++ [b3]), Hp.big opH mo, R]) rfl ?_
    refine Gx.val rfl rfl rfl (val_nilCheck rfl rfl) ?_
    refine Gx.val rfl rfl rfl (Val.cast (val_fieldAddr rfl Try.underlying47 rfl Try.ty43 rfl rfl) (v' := ptr S 1) rfl) ?_
    refine Gx.eff0 rfl rfl (eff_store rfl Try.ty43 rfl rfl (us := [v6]) hiv6.cellsL rfl hiv6.all (k := 3) rfl (rfl) (vs' := [cv, v6, nowV (mo.map Om.b) a0, nowV (mo.map Om.b) a1, .pointer none, nowV (mo.map Om.b) a3]) (rfl) (l' := [Hp.rec_ b3 [ptr b2 0, .int .i64 0, .int .i64 0, .int .i64 0, .bool false, .int .u32 0, .int .i64 0], Hp.rec_ b2 [.int .i64 2, .int .i64 0, .bool wr, .int .i64 val, .int .i64 ((mom : Nat) : Int), .int .i64 (-1)], Hp.rec_ b1 [.int .i64 kd, .int .i64 2, .int .i64 lo, .int .i64 sr, .bool wr, .int .i64 val], Hp.rec_ S [cv, v6, nowV (mo.map Om.b) a0, nowV (mo.map Om.b) a1, .pointer none, nowV (mo.map Om.b) a3], Hp.own Fsd 3 cv cs, Hp.own FP 1 v6 ((mo.map Om.b) ++ [b3]), Hp.big opH mo, R]) rfl) ?_
    rintro _ _ rfl
    refine Gx.done ?_
    refine Gx.thenN ?_
    refine Gx.seq ?_
    refine Gx.regionO (fun j => false) 7 [0, 1, 2, 3, 4, 5, 6] (fun _ => [Hp.rec_ b3 [ptr b2 0, .int .i64 0, .int .i64 0, .int .i64 0, .bool false, .int .u32 0, .int .i64 0], Hp.rec_ b2 [.int .i64 2, .int .i64 0, .bool wr, .int .i64 val, .int .i64 ((mom : Nat) : Int), .int .i64 (-1)], Hp.rec_ b1 [.int .i64 kd, .int .i64 2, .int .i64 lo, .int .i64 sr, .bool wr, .int .i64 val], Hp.rec_ S [cv, v6, nowV (mo.map Om.b) a0, nowV (mo.map Om.b) a1, .pointer none, nowV (mo.map Om.b) a3], Hp.own Fsd 3 cv cs, Hp.own FP 1 v6 ((mo.map Om.b) ++ [b3]), Hp.big opH mo, R]) Try.mixed (by kernel_rfl) rfl ?_
    refine Gw.val rfl rfl rfl rfl rfl (fun us => val_move rfl rfl) ?_
    refine Gw.val rfl rfl rfl rfl rfl (fun us => Val.cast (val_fieldAddr rfl Try.underlying24 rfl Try.ty3 rfl rfl) (v' := ptr b1 1) rfl) ?_
    refine Gw.val0 rfl rfl rfl (by kernel_rfl) rfl rfl (val_load rfl Try.ty3 rfl rfl (cell_rec (k := 2) rfl rfl)) ?_
    refine Gw.val rfl rfl rfl rfl rfl (fun us => val_move rfl rfl) ?_
    refine Gw.val rfl rfl rfl rfl rfl (fun us => val_nilCheck rfl rfl) ?_
    refine Gw.val rfl rfl rfl rfl rfl (fun us => Val.cast (val_fieldAddr rfl Try.underlying47 rfl Try.ty45 rfl rfl) (v' := ptr S 2) rfl) ?_
    refine Gw.val rfl rfl rfl rfl rfl (fun us => Val.cast (val_ixaA rfl Try.underlying45 Try.ty44 rfl rfl (j := 2) (rfl) (by omega)) (v' := ptr S 4) rfl) ?_
    refine Gw.done ?_
    refine Gx.norm (l' := [Hp.rec_ b3 [ptr b2 0, .int .i64 0, .int .i64 0, .int .i64 0, .bool false, .int .u32 0, .int .i64 0], Hp.rec_ b2 [.int .i64 2, .int .i64 0, .bool wr, .int .i64 val, .int .i64 ((mom : Nat) : Int), .int .i64 (-1)], Hp.rec_ b1 [.int .i64 kd, .int .i64 2, .int .i64 lo, .int .i64 sr, .bool wr, .int .i64 val], Hp.rec_ S [cv, v6, nowV (mo.map Om.b) a0, nowV (mo.map Om.b) a1, .pointer none, nowV (mo.map Om.b) a3], Hp.own Fsd 3 cv cs, Hp.own FP 1 v6 ((mo.map Om.b) ++ [b3]), Hp.big opH mo, R]) rfl ?_
    refine Gx.eff0 rfl rfl (eff_store rfl Try.ty44 rfl rfl (us := [ptr b3 0]) rfl rfl rfl (k := 3) rfl (rfl) (vs' := [cv, v6, nowV (mo.map Om.b) a0, nowV (mo.map Om.b) a1, ptr b3 0, nowV (mo.map Om.b) a3]) (rfl) (l' := [Hp.rec_ b3 [ptr b2 0, .int .i64 0, .int .i64 0, .int .i64 0, .bool false, .int .u32 0, .int .i64 0], Hp.rec_ b2 [.int .i64 2, .int .i64 0, .bool wr, .int .i64 val, .int .i64 ((mom : Nat) : Int), .int .i64 (-1)], Hp.rec_ b1 [.int .i64 kd, .int .i64 2, .int .i64 lo, .int .i64 sr, .bool wr, .int .i64 val], Hp.rec_ S [cv, v6, nowV (mo.map Om.b) a0, nowV (mo.map Om.b) a1, ptr b3 0, nowV (mo.map Om.b) a3], Hp.own Fsd 3 cv cs, Hp.own FP 1 v6 ((mo.map Om.b) ++ [b3]), Hp.big opH mo, R]) rfl) ?_
    rintro _ _ rfl
    refine Gx.done ?_
    refine Gx.thenN ?_
    refine Gx.seq ?_
    refine Gx.region ?_
    refine Gx.val rfl rfl rfl (val_assign rfl rfl) ?_
    refine Gx.done ?_
    refine Gx.thenN ?_
    refine Gx.ret ?_
    refine Gx.drop 2 rfl ?_
    refine Gx.front 6 rfl ?_
    refine Gx.front 2 rfl ?_
    refine Gx.front 2 rfl ?_
    refine Gx.front 6 rfl ?_
    refine Gx.front 6 rfl ?_
    refine Gx.front 6 rfl ?_
    refine Gx.front 6 rfl ?_
    have hbs : (mo ++ [(⟨b3, b2, newO 2 wr val mom⟩ : Om)]).map Om.b = mo.map Om.b ++ [b3] := by simp
    have e0 : nowV (mo.map Om.b) a0 = nowV ((mo ++ [(⟨b3, b2, newO 2 wr val mom⟩ : Om)]).map Om.b) a0 := by rw [hbs, nowV_more]; intro k hk; rw [List.length_map]; exact h0 k hk
    have e1 : nowV (mo.map Om.b) a1 = nowV ((mo ++ [(⟨b3, b2, newO 2 wr val mom⟩ : Om)]).map Om.b) a1 := by rw [hbs, nowV_more]; intro k hk; rw [List.length_map]; exact h1 k hk
    have e3 : nowV (mo.map Om.b) a3 = nowV ((mo ++ [(⟨b3, b2, newO 2 wr val mom⟩ : Om)]).map Om.b) a3 := by rw [hbs, nowV_more]; intro k hk; rw [List.length_map]; exact h3 k hk
    have e2 : ptr b3 0 = nowV ((mo ++ [(⟨b3, b2, newO 2 wr val mom⟩ : Om)]).map Om.b) (some mo.length) := by rw [hbs, show mo.length = (mo.map Om.b).length from by simp, nowV_last]
    have hbig : Hp.big opH (mo ++ [(⟨b3, b2, newO 2 wr val mom⟩ : Om)]) = Hp.big opH mo * opH (⟨b3, b2, newO 2 wr val mom⟩ : Om) := by rw [Hp.big_append]; show _ * (_ * 1) = _; rw [Hp.mul_one]
    refine Gx.ret1 Try.results14 rfl ?_
    refine ⟨b3, b2, v6, rfl, hiv6, ?_⟩
    rw [← regP_shut, hbig, ← e0, ← e1, ← e2, ← e3, hbs]
    simp only [newO, h4, if_true, Bool.false_eq_true, if_false, opH, mk_nil]
    show _ * (_ * (_ * (_ * (_ * (_ * (_ * 1)))))) = _ * (_ * (_ * (_ * (_ * 1))))
    simp only [Hp.mul_assoc, Hp.mul_one]
    rfl
  · refine Gx.skip ?_
    refine Gx.thenN ?_
    refine Gx.seq ?_
    refine Gx.region ?_
    refine Gx.val rfl rfl rfl (val_move rfl rfl) ?_
    refine Gx.val rfl rfl rfl (val_move rfl rfl) ?_
    refine Gx.val rfl rfl rfl (val_nilCheck rfl rfl) ?_
    refine Gx.val rfl rfl rfl (Val.cast (val_fieldAddr rfl Try.underlying47 rfl Try.ty43 rfl rfl) (v' := ptr S 1) rfl) ?_
    refine Gx.val rfl rfl rfl (val_load rfl Try.ty43 rfl rfl (cell_rec (k := 3) rfl rfl)) ?_
    refine Gx.val rfl rfl rfl (val_move rfl rfl) ?_
    refine Gx.eff rfl rfl rfl (eff_buildSlice rfl (qs := [(0, ptr b3 0)]) rfl rfl (cs := #[ptr b3 0]) (vs := [ptr b3 0]) (E := 44) rfl (fun w => by first | (go_simp; done) | (go_simp; rfl))) ?_
    rintro _ _ ⟨b7, rfl, rfl⟩
    refine Gx.eff rfl rfl rfl (eff_push (r := b3) rfl Try.eP FP_len FP_one rfl rfl (k := 0) rfl rfl (k' := 5) rfl (by rw [List.length_map]; omega) (by rw [List.length_map]; omega)) ?_
    rintro v8 _ ⟨hiv8, rfl⟩
    refine Gx.norm (l' := [Hp.rec_ b3 [ptr b2 0, .int .i64 0, .int .i64 0, .int .i64 0, .bool false, .int .u32 0, .int .i64 0], Hp.rec_ b2 [.int .i64 2, .int .i64 0, .bool wr, .int .i64 0, .int .i64 ((mom : Nat) : Int), .int .i64 (-1)], Hp.rec_ b1 [.int .i64 kd, .int .i64 2, .int .i64 lo, .int .i64 sr, .bool wr, .int .i64 val], Hp.rec_ S [cv, ov, nowV (mo.map Om.b) a0, nowV (mo.map Om.b) a1, .pointer none, nowV (mo.map Om.b) a3], Hp.own Fsd 3 cv cs, Hp.own FP 1 v8 ((mo.map Om.b) ++ [b3]), Hp.big opH mo, R]) rfl ?_
    refine Gx.val rfl rfl rfl (val_nilCheck rfl rfl) ?_
    refine Gx.val rfl rfl rfl (Val.cast (val_fieldAddr rfl Try.underlying47 rfl Try.ty43 rfl rfl) (v' := ptr S 1) rfl) ?_
    refine Gx.eff0 rfl rfl (eff_store rfl Try.ty43 rfl rfl (us := [v8]) hiv8.cellsL rfl hiv8.all (k := 3) rfl (rfl) (vs' := [cv, v8, nowV (mo.map Om.b) a0, nowV (mo.map Om.b) a1, .pointer none, nowV (mo.map Om.b) a3]) (rfl) (l' := [Hp.rec_ b3 [ptr b2 0, .int .i64 0, .int .i64 0, .int .i64 0, .bool false, .int .u32 0, .int .i64 0], Hp.rec_ b2 [.int .i64 2, .int .i64 0, .bool wr, .int .i64 0, .int .i64 ((mom : Nat) : Int), .int .i64 (-1)], Hp.rec_ b1 [.int .i64 kd, .int .i64 2, .int .i64 lo, .int .i64 sr, .bool wr, .int .i64 val], Hp.rec_ S [cv, v8, nowV (mo.map Om.b) a0, nowV (mo.map Om.b) a1, .pointer none, nowV (mo.map Om.b) a3], Hp.own Fsd 3 cv cs, Hp.own FP 1 v8 ((mo.map Om.b) ++ [b3]), Hp.big opH mo, R]) rfl) ?_
    rintro _ _ rfl
    refine Gx.done ?_
    refine Gx.thenN ?_
    refine Gx.seq ?_
    refine Gx.regionO (fun j => false) 7 [0, 1, 2, 3, 4, 5, 6] (fun _ => [Hp.rec_ b3 [ptr b2 0, .int .i64 0, .int .i64 0, .int .i64 0, .bool false, .int .u32 0, .int .i64 0], Hp.rec_ b2 [.int .i64 2, .int .i64 0, .bool wr, .int .i64 0, .int .i64 ((mom : Nat) : Int), .int .i64 (-1)], Hp.rec_ b1 [.int .i64 kd, .int .i64 2, .int .i64 lo, .int .i64 sr, .bool wr, .int .i64 val], Hp.rec_ S [cv, v8, nowV (mo.map Om.b) a0, nowV (mo.map Om.b) a1, .pointer none, nowV (mo.map Om.b) a3], Hp.own Fsd 3 cv cs, Hp.own FP 1 v8 ((mo.map Om.b) ++ [b3]), Hp.big opH mo, R]) Try.mixed (by kernel_rfl) rfl ?_
    refine Gw.val rfl rfl rfl rfl rfl (fun us => val_move rfl rfl) ?_
    refine Gw.val rfl rfl rfl rfl rfl (fun us => Val.cast (val_fieldAddr rfl Try.underlying24 rfl Try.ty3 rfl rfl) (v' := ptr b1 1) rfl) ?_
    refine Gw.val0 rfl rfl rfl (by kernel_rfl) rfl rfl (val_load rfl Try.ty3 rfl rfl (cell_rec (k := 2) rfl rfl)) ?_
    refine Gw.val rfl rfl rfl rfl rfl (fun us => val_move rfl rfl) ?_
    refine Gw.val rfl rfl rfl rfl rfl (fun us => val_nilCheck rfl rfl) ?_
    refine Gw.val rfl rfl rfl rfl rfl (fun us => Val.cast (val_fieldAddr rfl Try.underlying47 rfl Try.ty45 rfl rfl) (v' := ptr S 2) rfl) ?_
    refine Gw.val rfl rfl rfl rfl rfl (fun us => Val.cast (val_ixaA rfl Try.underlying45 Try.ty44 rfl rfl (j := 2) (rfl) (by omega)) (v' := ptr S 4) rfl) ?_
    refine Gw.done ?_
    refine Gx.norm (l' := [Hp.rec_ b3 [ptr b2 0, .int .i64 0, .int .i64 0, .int .i64 0, .bool false, .int .u32 0, .int .i64 0], Hp.rec_ b2 [.int .i64 2, .int .i64 0, .bool wr, .int .i64 0, .int .i64 ((mom : Nat) : Int), .int .i64 (-1)], Hp.rec_ b1 [.int .i64 kd, .int .i64 2, .int .i64 lo, .int .i64 sr, .bool wr, .int .i64 val], Hp.rec_ S [cv, v8, nowV (mo.map Om.b) a0, nowV (mo.map Om.b) a1, .pointer none, nowV (mo.map Om.b) a3], Hp.own Fsd 3 cv cs, Hp.own FP 1 v8 ((mo.map Om.b) ++ [b3]), Hp.big opH mo, R]) rfl ?_
    refine Gx.eff0 rfl rfl (eff_store rfl Try.ty44 rfl rfl (us := [ptr b3 0]) rfl rfl rfl (k := 3) rfl (rfl) (vs' := [cv, v8, nowV (mo.map Om.b) a0, nowV (mo.map Om.b) a1, ptr b3 0, nowV (mo.map Om.b) a3]) (rfl) (l' := [Hp.rec_ b3 [ptr b2 0, .int .i64 0, .int .i64 0, .int .i64 0, .bool false, .int .u32 0, .int .i64 0], Hp.rec_ b2 [.int .i64 2, .int .i64 0, .bool wr, .int .i64 0, .int .i64 ((mom : Nat) : Int), .int .i64 (-1)], Hp.rec_ b1 [.int .i64 kd, .int .i64 2, .int .i64 lo, .int .i64 sr, .bool wr, .int .i64 val], Hp.rec_ S [cv, v8, nowV (mo.map Om.b) a0, nowV (mo.map Om.b) a1, ptr b3 0, nowV (mo.map Om.b) a3], Hp.own Fsd 3 cv cs, Hp.own FP 1 v8 ((mo.map Om.b) ++ [b3]), Hp.big opH mo, R]) rfl) ?_
    rintro _ _ rfl
    refine Gx.done ?_
    refine Gx.thenN ?_
    refine Gx.seq ?_
    refine Gx.region ?_
    refine Gx.val rfl rfl rfl (val_assign rfl rfl) ?_
    refine Gx.done ?_
    refine Gx.thenN ?_
    refine Gx.ret ?_
    refine Gx.drop 2 rfl ?_
    refine Gx.front 6 rfl ?_
    refine Gx.front 2 rfl ?_
    refine Gx.front 2 rfl ?_
    refine Gx.front 6 rfl ?_
    refine Gx.front 6 rfl ?_
    refine Gx.front 6 rfl ?_
    refine Gx.front 6 rfl ?_
    have hbs : (mo ++ [(⟨b3, b2, newO 2 wr val mom⟩ : Om)]).map Om.b = mo.map Om.b ++ [b3] := by simp
    have e0 : nowV (mo.map Om.b) a0 = nowV ((mo ++ [(⟨b3, b2, newO 2 wr val mom⟩ : Om)]).map Om.b) a0 := by rw [hbs, nowV_more]; intro k hk; rw [List.length_map]; exact h0 k hk
    have e1 : nowV (mo.map Om.b) a1 = nowV ((mo ++ [(⟨b3, b2, newO 2 wr val mom⟩ : Om)]).map Om.b) a1 := by rw [hbs, nowV_more]; intro k hk; rw [List.length_map]; exact h1 k hk
    have e3 : nowV (mo.map Om.b) a3 = nowV ((mo ++ [(⟨b3, b2, newO 2 wr val mom⟩ : Om)]).map Om.b) a3 := by rw [hbs, nowV_more]; intro k hk; rw [List.length_map]; exact h3 k hk
    have e2 : ptr b3 0 = nowV ((mo ++ [(⟨b3, b2, newO 2 wr val mom⟩ : Om)]).map Om.b) (some mo.length) := by rw [hbs, show mo.length = (mo.map Om.b).length from by simp, nowV_last]
    have hbig : Hp.big opH (mo ++ [(⟨b3, b2, newO 2 wr val mom⟩ : Om)]) = Hp.big opH mo * opH (⟨b3, b2, newO 2 wr val mom⟩ : Om) := by rw [Hp.big_append]; show _ * (_ * 1) = _; rw [Hp.mul_one]
    refine Gx.ret1 Try.results14 rfl ?_
    refine ⟨b3, b2, v8, rfl, hiv8, ?_⟩
    rw [← regP_shut, hbig, ← e0, ← e1, ← e2, ← e3, hbs]
    simp only [newO, h4, if_true, Bool.false_eq_true, if_false, opH, mk_nil]
    show _ * (_ * (_ * (_ * (_ * (_ * (_ * 1)))))) = _ * (_ * (_ * (_ * (_ * 1))))
    simp only [Hp.mul_assoc, Hp.mul_one]
    rfl

theorem begin_no3 {W w : World} {S k mom : Nat} {a0 a1 a2 : Option Nat} {cv ov : Value} {cs : List Sd} {mo : List Om} {R : Hp} {kd lo sr val : Int} {wr : Bool} (H : Sat W w (regP S [a0, a1, a2, some k] cv ov cs mo * R)) :
    Calls Try.prog 14 #[ptr S 0, .agg #[.int .i64 kd, .int .i64 3, .int .i64 lo, .int .i64 sr, .bool wr, .int .i64 val], .int .i64 ((mom : Nat) : Int)] w (Ret W fun v l => v = .int .i64 6 ∧ sep l = regP S [a0, a1, a2, some k] cv ov cs mo * R) := by
  refine Gx.enter (l := [Hp.rec_ S [cv, ov, nowV (mo.map Om.b) a0, nowV (mo.map Om.b) a1, nowV (mo.map Om.b) a2, ptr ((mo.map Om.b).getD k 0) 0], Hp.own Fsd 3 cv cs, Hp.own FP 1 ov (mo.map Om.b), Hp.big opH mo, R]) Try.func14 rfl Try.ntmps14 rfl ((regP_open H)) ?_
  refine Gx.know (m' := [(0, ptr S 0), (1, .agg #[.int .i64 kd, .int .i64 3, .int .i64 lo, .int .i64 sr, .bool wr, .int .i64 val]), (2, .int .i64 ((mom : Nat) : Int))]) (.cons rfl (.cons rfl (.cons rfl .nil))) ?_
  refine Gx.seq ?_
  refine Gx.region ?_
  refine Gx.eff rfl rfl rfl (eff_box rfl rfl (vs := [.int .i64 kd, .int .i64 3, .int .i64 lo, .int .i64 sr, .bool wr, .int .i64 val]) rfl) ?_
  rintro _ _ ⟨b1, rfl, rfl⟩
  refine Gx.val rfl rfl rfl (val_assign rfl rfl) ?_
  refine Gx.done ?_
  refine Gx.thenN ?_
  refine Gx.seq ?_
  refine Gx.seq ?_
  refine Gx.regionQ Try.mixed (by kernel_rfl) ?_
  refine Gq.val rfl rfl rfl (val_move rfl rfl) ?_
  refine Gq.val rfl rfl rfl (Val.cast (val_fieldAddr rfl Try.underlying24 rfl Try.ty3 rfl rfl) (v' := ptr b1 1) rfl) ?_
  refine Gq.val rfl rfl rfl (val_load rfl Try.ty3 rfl rfl (cell_rec (k := 0) rfl rfl)) ?_
  refine Gq.val rfl rfl rfl (val_nilCheck rfl rfl) ?_
  refine Gq.val rfl rfl rfl (Val.cast (val_fieldAddr rfl Try.underlying47 rfl Try.ty45 rfl rfl) (v' := ptr S 2) rfl) ?_
  refine Gq.val rfl rfl rfl (Val.cast (val_ixaA rfl Try.underlying45 Try.ty44 rfl rfl (j := 3) (rfl) (by omega)) (v' := ptr S 5) rfl) ?_
  refine Gq.val rfl rfl rfl (val_load rfl Try.ty44 rfl rfl (cell_rec (k := 1) rfl rfl)) ?_
  refine Gq.val rfl rfl rfl (Val.cast (val_neqP rfl Try.underlying44 (by kernel_rfl) rfl rfl) (v' := .bool true) rfl) ?_
  refine Gq.done ?_
  refine Gx.thenN ?_
  refine Gx.t rfl ?_
  refine Gx.seq ?_
  refine Gx.region ?_
  refine Gx.val rfl rfl rfl (val_assign rfl rfl) ?_
  refine Gx.done ?_
  refine Gx.thenN ?_
  refine Gx.ret ?_
  refine Gx.thenR ?_
  refine Gx.drop 0 rfl ?_
  refine Gx.ret1 Try.results14 rfl ?_
  exact ⟨rfl, regP_shut (a3 := some k)⟩

theorem begin_yes3 {W w : World} {S mom : Nat} {a0 a1 a2 : Option Nat} {cv ov : Value} {cs : List Sd} {mo : List Om} {R : Hp} {kd lo sr val : Int} {wr : Bool} (h0 : ∀ k, a0 = some k → k < mo.length) (h1 : ∀ k, a1 = some k → k < mo.length) (h2 : ∀ k, a2 = some k → k < mo.length) (hml : mo.length ≤ 1000) (H : Sat W w (regP S [a0, a1, a2, none] cv ov cs mo * R)) :
    Calls Try.prog 14 #[ptr S 0, .agg #[.int .i64 kd, .int .i64 3, .int .i64 lo, .int .i64 sr, .bool wr, .int .i64 val], .int .i64 ((mom : Nat) : Int)] w (Ret W fun v l => ∃ b b2 ov', v = .int .i64 0 ∧ IsS ov' ∧ sep l = regP S [a0, a1, a2, some mo.length] cv ov' cs (mo ++ [⟨b, b2, newO 3 wr val mom⟩]) * R) := by
  refine Gx.enter (l := [Hp.rec_ S [cv, ov, nowV (mo.map Om.b) a0, nowV (mo.map Om.b) a1, nowV (mo.map Om.b) a2, .pointer none], Hp.own Fsd 3 cv cs, Hp.own FP 1 ov (mo.map Om.b), Hp.big opH mo, R]) Try.func14 rfl Try.ntmps14 rfl ((regP_open H)) ?_
  refine Gx.know (m' := [(0, ptr S 0), (1, .agg #[.int .i64 kd, .int .i64 3, .int .i64 lo, .int .i64 sr, .bool wr, .int .i64 val]), (2, .int .i64 ((mom : Nat) : Int))]) (.cons rfl (.cons rfl (.cons rfl .nil))) ?_
  refine Gx.seq ?_
  refine Gx.region ?_
  refine Gx.eff rfl rfl rfl (eff_box rfl rfl (vs := [.int .i64 kd, .int .i64 3, .int .i64 lo, .int .i64 sr, .bool wr, .int .i64 val]) rfl) ?_
  rintro _ _ ⟨b1, rfl, rfl⟩
  refine Gx.val rfl rfl rfl (val_assign rfl rfl) ?_
  refine Gx.done ?_
  refine Gx.thenN ?_
  refine Gx.seq ?_
  refine Gx.seq ?_
  refine Gx.regionQ Try.mixed (by kernel_rfl) ?_
  refine Gq.val rfl rfl rfl (val_move rfl rfl) ?_
  refine Gq.val rfl rfl rfl (Val.cast (val_fieldAddr rfl Try.underlying24 rfl Try.ty3 rfl rfl) (v' := ptr b1 1) rfl) ?_
  refine Gq.val rfl rfl rfl (val_load rfl Try.ty3 rfl rfl (cell_rec (k := 0) rfl rfl)) ?_
  refine Gq.val rfl rfl rfl (val_nilCheck rfl rfl) ?_
  refine Gq.val rfl rfl rfl (Val.cast (val_fieldAddr rfl Try.underlying47 rfl Try.ty45 rfl rfl) (v' := ptr S 2) rfl) ?_
  refine Gq.val rfl rfl rfl (Val.cast (val_ixaA rfl Try.underlying45 Try.ty44 rfl rfl (j := 3) (rfl) (by omega)) (v' := ptr S 5) rfl) ?_
  refine Gq.val rfl rfl rfl (val_load rfl Try.ty44 rfl rfl (cell_rec (k := 1) rfl rfl)) ?_
  refine Gq.val rfl rfl rfl (Val.cast (val_neqP rfl Try.underlying44 (by kernel_rfl) rfl rfl) (v' := .bool false) rfl) ?_
  refine Gq.done ?_
  refine Gx.thenN ?_
  refine Gx.f rfl ?_
  refine Gx.skip ?_
  refine Gx.thenN ?_
  refine Gx.seq ?_
  refine Gx.region ?_
  refine Gx.val rfl rfl rfl (Val.cast (val_fieldAddr rfl Try.underlying24 rfl Try.ty3 rfl rfl) (v' := ptr b1 1) rfl) ?_
  refine Gx.val rfl rfl rfl (val_load rfl Try.ty3 rfl rfl (cell_rec (k := 0) rfl rfl)) ?_
  refine Gx.val rfl rfl rfl (Val.cast (val_fieldAddr rfl Try.underlying24 rfl Try.ty4 rfl rfl) (v' := ptr b1 4) rfl) ?_
  refine Gx.val rfl rfl rfl (val_load rfl Try.ty4 rfl rfl (cell_rec (k := 0) rfl rfl)) ?_
  refine Gx.val rfl rfl rfl (val_move rfl rfl) ?_
  refine Gx.val rfl rfl rfl (val_build rfl (qs := [(0, .int .i64 3), (2, .bool wr), (4, .int .i64 ((mom : Nat) : Int)), (5, .int .i64 (-1))]) rfl rfl (fun w => by go_simp) (v := .agg #[.int .i64 3, .int .i64 0, .bool wr, .int .i64 0, .int .i64 ((mom : Nat) : Int), .int .i64 (-1)])) ?_
  refine Gx.eff rfl rfl rfl (eff_box rfl rfl (vs := [.int .i64 3, .int .i64 0, .bool wr, .int .i64 0, .int .i64 ((mom : Nat) : Int), .int .i64 (-1)]) rfl) ?_
  rintro _ _ ⟨b2, rfl, rfl⟩
  refine Gx.val rfl rfl rfl (val_build rfl (qs := [(0, ptr b2 0)]) rfl rfl (fun w => by go_simp) (v := .agg #[ptr b2 0, .int .i64 0, .int .i64 0, .int .i64 0, .bool false, .int .u32 0, .int .i64 0])) ?_
  refine Gx.eff rfl rfl rfl (eff_box rfl rfl (vs := [ptr b2 0, .int .i64 0, .int .i64 0, .int .i64 0, .bool false, .int .u32 0, .int .i64 0]) rfl) ?_
  rintro _ _ ⟨b3, rfl, rfl⟩
  refine Gx.val rfl rfl rfl (val_assign rfl rfl) ?_
  refine Gx.done ?_
  refine Gx.thenN ?_
  refine Gx.seq ?_
  refine Gx.seq ?_
  refine Gx.region ?_
  refine Gx.val rfl rfl rfl (Val.cast (val_fieldAddr rfl Try.underlying24 rfl Try.ty4 rfl rfl) (v' := ptr b1 4) rfl) ?_
  refine Gx.val rfl rfl rfl (val_load rfl Try.ty4 rfl rfl (cell_rec (k := 2) rfl rfl)) ?_
  refine Gx.done ?_
  refine Gx.thenN ?_
  refine Gx.bool rfl (fun h4 => ?_) (fun h4 => ?_)
  · refine Gx.regionO (fun j => false) 8 [0, 1, 2, 3, 4, 5, 6, 7] (fun _ => [Hp.rec_ b3 [ptr b2 0, .int .i64 0, .int .i64 0, .int .i64 0, .bool false, .int .u32 0, .int .i64 0], Hp.rec_ b2 [.int .i64 3, .int .i64 0, .bool wr, .int .i64 0, .int .i64 ((mom : Nat) : Int), .int .i64 (-1)], Hp.rec_ b1 [.int .i64 kd, .int .i64 3, .int .i64 lo, .int .i64 sr, .bool wr, .int .i64 val], Hp.rec_ S [cv, ov, nowV (mo.map Om.b) a0, nowV (mo.map Om.b) a1, nowV (mo.map Om.b) a2, .pointer none], Hp.own Fsd 3 cv cs, Hp.own FP 1 ov (mo.map Om.b), Hp.big opH mo, R]) Try.mixed (by kernel_rfl) rfl ?_
    refine Gw.val rfl rfl rfl rfl rfl (fun us => val_move rfl rfl) ?_
    refine Gw.val rfl rfl rfl rfl rfl (fun us => val_nilCheck rfl rfl) ?_
    refine Gw.val rfl rfl rfl rfl rfl (fun us => Val.cast (val_fieldAddr rfl Try.underlying54 rfl Try.ty49 rfl rfl) (v' := ptr b3 0) rfl) ?_
    refine Gw.val0 rfl rfl rfl (by kernel_rfl) rfl rfl (val_load rfl Try.ty49 rfl rfl (cell_rec (k := 0) rfl rfl)) ?_
    refine Gw.val rfl rfl rfl rfl rfl (fun us => Val.cast (val_fieldAddr rfl Try.underlying24 rfl Try.ty2 rfl rfl) (v' := ptr b1 5) rfl) ?_
    refine Gw.val0 rfl rfl rfl (by kernel_rfl) rfl rfl (val_load rfl Try.ty2 rfl rfl (cell_rec (k := 2) rfl rfl)) ?_
    refine Gw.val rfl rfl rfl rfl rfl (fun us => val_nilCheck rfl rfl) ?_
    refine Gw.val rfl rfl rfl rfl rfl (fun us => Val.cast (val_fieldAddr rfl Try.underlying33 rfl Try.ty2 rfl rfl) (v' := ptr b2 3) rfl) ?_
    refine Gw.done ?_
    refine Gx.norm (l' := [Hp.rec_ b3 [ptr b2 0, .int .i64 0, .int .i64 0, .int .i64 0, .bool false, .int .u32 0, .int .i64 0], Hp.rec_ b2 [.int .i64 3, .int .i64 0, .bool wr, .int .i64 0, .int .i64 ((mom : Nat) : Int), .int .i64 (-1)], Hp.rec_ b1 [.int .i64 kd, .int .i64 3, .int .i64 lo, .int .i64 sr, .bool wr, .int .i64 val], Hp.rec_ S [cv, ov, nowV (mo.map Om.b) a0, nowV (mo.map Om.b) a1, nowV (mo.map Om.b) a2, .pointer none], Hp.own Fsd 3 cv cs, Hp.own FP 1 ov (mo.map Om.b), Hp.big opH mo, R]) rfl ?_
    refine Gx.eff0 rfl rfl (eff_store rfl Try.ty2 rfl rfl (us := [.int .i64 val]) rfl rfl rfl (k := 1) rfl (rfl) (vs' := [.int .i64 3, .int .i64 0, .bool wr, .int .i64 val, .int .i64 ((mom : Nat) : Int), .int .i64 (-1)]) (rfl) (l' := [Hp.rec_ b3 [ptr b2 0, .int .i64 0, .int .i64 0, .int .i64 0, .bool false, .int .u32 0, .int .i64 0], Hp.rec_ b2 [.int .i64 3, .int .i64 0, .bool wr, .int .i64 val, .int .i64 ((mom : Nat) : Int), .int .i64 (-1)], Hp.rec_ b1 [.int .i64 kd, .int .i64 3, .int .i64 lo, .int .i64 sr, .bool wr, .int .i64 val], Hp.rec_ S [cv, ov, nowV (mo.map Om.b) a0, nowV (mo.map Om.b) a1, nowV (mo.map Om.b) a2, .pointer none], Hp.own Fsd 3 cv cs, Hp.own FP 1 ov (mo.map Om.b), Hp.big opH mo, R]) rfl) ?_
    rintro _ _ rfl
    refine Gx.done ?_
    refine Gx.thenN ?_
    refine Gx.seq ?_
    refine Gx.region ?_
    refine Gx.val rfl rfl rfl (val_move rfl rfl) ?_
    refine Gx.val rfl rfl rfl (val_move rfl rfl) ?_
    refine Gx.val rfl rfl rfl (val_nilCheck rfl rfl) ?_
    refine Gx.val rfl rfl rfl (Val.cast (val_fieldAddr rfl Try.underlying47 rfl Try.ty43 rfl rfl) (v' := ptr S 1) rfl) ?_
    refine Gx.val rfl rfl rfl (val_load rfl Try.ty43 rfl rfl (cell_rec (k := 3) rfl rfl)) ?_
    refine Gx.val rfl rfl rfl (val_move rfl rfl) ?_
    refine Gx.eff rfl rfl rfl (eff_buildSlice rfl (qs := [(0, ptr b3 0)]) rfl rfl (cs := #[ptr b3 0]) (vs := [ptr b3 0]) (E := 44) rfl (fun w => by first | (go_simp; done) | (go_simp; rfl))) ?_
    rintro _ _ ⟨b5, rfl, rfl⟩
    refine Gx.eff rfl rfl rfl (eff_push (r := b3) rfl Try.eP FP_len FP_one rfl rfl (k := 0) rfl rfl (k' := 5) rfl (by rw [List.length_map]; omega) (by rw [List.length_map]; omega)) ?_
    rintro v6 _ ⟨hiv6, rfl⟩
    refine Gx.norm (l' := [Hp.rec_ b3 [ptr b2 0, .int .i64 0, .int .i64 0, .int .i64 0, .bool false, .int .u32 0, .int .i64 0], Hp.rec_ b2 [.int .i64 3, .int .i64 0, .bool wr, .int .i64 val, .int .i64 ((mom : Nat) : Int), .int .i64 (-1)], Hp.rec_ b1 [.int .i64 kd, .int .i64 3, .int .i64 lo, .int .i64 sr, .bool wr, .int .i64 val], Hp.rec_ S [cv, ov, nowV (mo.map Om.b) a0, nowV (mo.map Om.b) a1, nowV (mo.map Om.b) a2, .pointer none], Hp.own Fsd 3 cv cs, Hp.own FP 1 v6 ((mo.map Om.b) ++ [b3]), Hp.big opH mo, R]) rfl ?_
    refine Gx.val rfl rfl rfl (val_nilCheck rfl rfl) ?_
    refine Gx.val rfl rfl rfl (Val.cast (val_fieldAddr rfl Try.underlying47 rfl Try.ty43 rfl rfl) (v' := ptr S 1) rfl) ?_
    refine Gx.eff0 rfl rfl (eff_store rfl Try.ty43 rfl rfl (us := [v6]) hiv6.cellsL rfl hiv6.all (k := 3) rfl (rfl) (vs' := [cv, v6, nowV (mo.map Om.b) a0, nowV (mo.map Om.b) a1, nowV (mo.map Om.b) a2, .pointer none]) (rfl) (l' := [Hp.rec_ b3 [ptr b2 0, .int .i64 0, .int .i64 0, .int .i64 0, .bool false, .int .u32 0, .int .i64 0], Hp.rec_ b2 [.int .i64 3, .int .i64 0, .bool wr, .int .i64 val, .int .i64 ((mom : Nat) : Int), .int .i64 (-1)], Hp.rec_ b1 [.int .i64 kd, .int .i64 3, .int .i64 lo, .int .i64 sr, .bool wr, .int .i64 val], Hp.rec_ S [cv, v6, nowV (mo.map Om.b) a0, nowV (mo.map Om.b) a1, nowV (mo.map Om.b) a2, .pointer none], Hp.own Fsd 3 cv cs, Hp.own FP 1 v6 ((mo.map Om.b) ++ [b3]), Hp.big opH mo, R]) rfl) ?_
    rintro _ _ rfl
    refine Gx.done ?_
    refine Gx.thenN ?_
    refine Gx.seq ?_
    refine Gx.regionO (fun j => false) 7 [0, 1, 2, 3, 4, 5, 6] (fun _ => [Hp.rec_ b3 [ptr b2 0, .int .i64 0, .int .i64 0, .int .i64 0, .bool false, .int .u32 0, .int .i64 0], Hp.rec_ b2 [.int .i64 3, .int .i64 0, .bool wr, .int .i64 val, .int .i64 ((mom : Nat) : Int), .int .i64 (-1)], Hp.rec_ b1 [.int .i64 kd, .int .i64 3, .int .i64 lo, .int .i64 sr, .bool wr, .int .i64 val], Hp.rec_ S [cv, v6, nowV (mo.map Om.b) a0, nowV (mo.map Om.b) a1, nowV (mo.map Om.b) a2, .pointer none], Hp.own Fsd 3 cv cs, Hp.own FP 1 v6 ((mo.map Om.b) ++ [b3]), Hp.big opH mo, R]) Try.mixed (by kernel_rfl) rfl ?_
    refine Gw.val rfl rfl rfl rfl rfl (fun us => val_move rfl rfl) ?_
    refine Gw.val rfl rfl rfl rfl rfl (fun us => Val.cast (val_fieldAddr rfl Try.underlying24 rfl Try.ty3 rfl rfl) (v' := ptr b1 1) rfl) ?_
    refine Gw.val0 rfl rfl rfl (by kernel_rfl) rfl rfl (val_load rfl Try.ty3 rfl rfl (cell_rec (k := 2) rfl rfl)) ?_
    refine Gw.val rfl rfl rfl rfl rfl (fun us => val_move rfl rfl) ?_
    refine Gw.val rfl rfl rfl rfl rfl (fun us => val_nilCheck rfl rfl) ?_
    refine Gw.val rfl rfl rfl rfl rfl (fun us => Val.cast (val_fieldAddr rfl Try.underlying47 rfl Try.ty45 rfl rfl) (v' := ptr S 2) rfl) ?_
    refine Gw.val rfl rfl rfl rfl rfl (fun us => Val.cast (val_ixaA rfl Try.underlying45 Try.ty44 rfl rfl (j := 3) (rfl) (by omega)) (v' := ptr S 5) rfl) ?_
    refine Gw.done ?_
    refine Gx.norm (l' := [Hp.rec_ b3 [ptr b2 0, .int .i64 0, .int .i64 0, .int .i64 0, .bool false, .int .u32 0, .int .i64 0], Hp.rec_ b2 [.int .i64 3, .int .i64 0, .bool wr, .int .i64 val, .int .i64 ((mom : Nat) : Int), .int .i64 (-1)], Hp.rec_ b1 [.int .i64 kd, .int .i64 3, .int .i64 lo, .int .i64 sr, .bool wr, .int .i64 val], Hp.rec_ S [cv, v6, nowV (mo.map Om.b) a0, nowV (mo.map Om.b) a1, nowV (mo.map Om.b) a2, .pointer none], Hp.own Fsd 3 cv cs, Hp.own FP 1 v6 ((mo.map Om.b) ++ [b3]), Hp.big opH mo, R]) rfl ?_
    refine Gx.eff0 rfl rfl (eff_store rfl Try.ty44 rfl rfl (us := [ptr b3 0]) rfl rfl rfl (k := 3) rfl (rfl) (vs' := [cv, v6, nowV (mo.map Om.b) a0, nowV (mo.map Om.b) a1, nowV (mo.map Om.b) a2, ptr b3 0]) (rfl) (l' := [Hp.rec_ b3 [ptr b2 0, .int .i64 0, .int .i64 0, .int .i64 0, .bool false, .int .u32 0, .int .i64 0], Hp.rec_ b2 [.int .i64 3, .int .i64 0, .bool wr, .int .i64 val, .int .i64 ((mom : Nat) : Int), .int .i64 (-1)], Hp.rec_ b1 [.int .i64 kd, .int .i64 3, .int .i64 lo, .int .i64 sr, .bool wr, .int .i64 val], Hp.rec_ S [cv, v6, nowV (mo.map Om.b) a0, nowV (mo.map Om.b) a1, nowV (mo.map Om.b) a2, ptr b3 0], Hp.own Fsd 3 cv cs, Hp.own FP 1 v6 ((mo.map Om.b) ++ [b3]), Hp.big opH mo, R]) rfl) ?_
    rintro _ _ rfl
    refine Gx.done ?_
    refine Gx.thenN ?_
    refine Gx.seq ?_
    refine Gx.region ?_
    refine Gx.val rfl rfl rfl (val_assign rfl rfl) ?_
    refine Gx.done ?_
    refine Gx.thenN ?_
    refine Gx.ret ?_
    refine Gx.drop 2 rfl ?_
    refine Gx.front 6 rfl ?_
    refine Gx.front 2 rfl ?_
    refine Gx.front 2 rfl ?_
    refine Gx.front 6 rfl ?_
    refine Gx.front 6 rfl ?_
    refine Gx.front 6 rfl ?_
    refine Gx.front 6 rfl ?_
    have hbs : (mo ++ [(⟨b3, b2, newO 3 wr val mom⟩ : Om)]).map Om.b = mo.map Om.b ++ [b3] := by simp
    have e0 : nowV (mo.map Om.b) a0 = nowV ((mo ++ [(⟨b3, b2, newO 3 wr val mom⟩ : Om)]).map Om.b) a0 := by rw [hbs, nowV_more]; intro k hk; rw [List.length_map]; exact h0 k hk
    have e1 : nowV (mo.map Om.b) a1 = nowV ((mo ++ [(⟨b3, b2, newO 3 wr val mom⟩ : Om)]).map Om.b) a1 := by rw [hbs, nowV_more]; intro k hk; rw [List.length_map]; exact h1 k hk
    have e2 : nowV (mo.map Om.b) a2 = nowV ((mo ++ [(⟨b3, b2, newO 3 wr val mom⟩ : Om)]).map Om.b) a2 := by rw [hbs, nowV_more]; intro k hk; rw [List.length_map]; exact h2 k hk
    have e3 : ptr b3 0 = nowV ((mo ++ [(⟨b3, b2, newO 3 wr val mom⟩ : Om)]).map Om.b) (some mo.length) := by rw [hbs, show mo.length = (mo.map Om.b).length from by simp, nowV_last]
    have hbig : Hp.big opH (mo ++ [(⟨b3, b2, newO 3 wr val mom⟩ : Om)]) = Hp.big opH mo * opH (⟨b3, b2, newO 3 wr val mom⟩ : Om) := by rw [Hp.big_append]; show _ * (_ * 1) = _; rw [Hp.mul_one]
    refine Gx.ret1 Try.results14 rfl ?_
    refine ⟨b3, b2, v6, rfl, hiv6, ?_⟩
    rw [← regP_shut, hbig, ← e0, ← e1, ← e2, ← e3, hbs]
    simp only [newO, h4, if_true, Bool.false_eq_true, if_false, opH, mk_nil]
    show _ * (_ * (_ * (_ * (_ * (_ * (_ * 1)))))) = _ * (_ * (_ * (_ * (_ * 1))))
    simp only [Hp.mul_assoc, Hp.mul_one]
    rfl
  · refine Gx.skip ?_
    refine Gx.thenN ?_
    refine Gx.seq ?_
    refine Gx.region ?_
    refine Gx.val rfl rfl rfl (val_move rfl rfl) ?_
    refine Gx.val rfl rfl rfl (val_move rfl rfl) ?_
    refine Gx.val rfl rfl rfl (val_nilCheck rfl rfl) ?_
    refine Gx.val rfl rfl rfl (Val.cast (val_fieldAddr rfl Try.underlying47 rfl Try.ty43 rfl rfl) (v' := ptr S 1) rfl) ?_
    refine Gx.val rfl rfl rfl (val_load rfl Try.ty43 rfl rfl (cell_rec (k := 3) rfl rfl)) ?_
    refine Gx.val rfl rfl rfl (val_move rfl rfl) ?_
    refine Gx.eff rfl rfl rfl (eff_buildSlice rfl (qs := [(0, ptr b3 0)]) rfl rfl (cs := #[ptr b3 0]) (vs := [ptr b3 0]) (E := 44) rfl (fun w => by first | (go_simp; done) | (go_simp; rfl))) ?_
    rintro _ _ ⟨b7, rfl, rfl⟩
    refine Gx.eff rfl rfl rfl (eff_push (r := b3) rfl Try.eP FP_len FP_one rfl rfl (k := 0) rfl rfl (k' := 5) rfl (by rw [List.length_map]; omega) (by rw [List.length_map]; omega)) ?_
    rintro v8 _ ⟨hiv8, rfl⟩
    refine Gx.norm (l' := [Hp.rec_ b3 [ptr b2 0, .int .i64 0, .int .i64 0, .int .i64 0, .bool false, .int .u32 0, .int .i64 0], Hp.rec_ b2 [.int .i64 3, .int .i64 0, .bool wr, .int .i64 0, .int .i64 ((mom : Nat) : Int), .int .i64 (-1)], Hp.rec_ b1 [.int .i64 kd, .int .i64 3, .int .i64 lo, .int .i64 sr, .bool wr, .int .i64 val], Hp.rec_ S [cv, ov, nowV (mo.map Om.b) a0, nowV (mo.map Om.b) a1, nowV (mo.map Om.b) a2, .pointer none], Hp.own Fsd 3 cv cs, Hp.own FP 1 v8 ((mo.map Om.b) ++ [b3]), Hp.big opH mo, R]) rfl ?_
    refine Gx.val rfl rfl rfl (val_nilCheck rfl rfl) ?_
    refine Gx.val rfl rfl rfl (Val.cast (val_fieldAddr rfl Try.underlying47 rfl Try.ty43 rfl rfl) (v' := ptr S 1) rfl) ?_
    refine Gx.eff0 rfl rfl (eff_store rfl Try.ty43 rfl rfl (us := [v8]) hiv8.cellsL rfl hiv8.all (k := 3) rfl (rfl) (vs' := [cv, v8, nowV (mo.map Om.b) a0, nowV (mo.map Om.b) a1, nowV (mo.map Om.b) a2, .pointer none]) (rfl) (l' := [Hp.rec_ b3 [ptr b2 0, .int .i64 0, .int .i64 0, .int .i64 0, .bool false, .int .u32 0, .int .i64 0], Hp.rec_ b2 [.int .i64 3, .int .i64 0, .bool wr, .int .i64 0, .int .i64 ((mom : Nat) : Int), .int .i64 (-1)], Hp.rec_ b1 [.int .i64 kd, .int .i64 3, .int .i64 lo, .int .i64 sr, .bool wr, .int .i64 val], Hp.rec_ S [cv, v8, nowV (mo.map Om.b) a0, nowV (mo.map Om.b) a1, nowV (mo.map Om.b) a2, .pointer none], Hp.own Fsd 3 cv cs, Hp.own FP 1 v8 ((mo.map Om.b) ++ [b3]), Hp.big opH mo, R]) rfl) ?_
    rintro _ _ rfl
    refine Gx.done ?_
    refine Gx.thenN ?_
    refine Gx.seq ?_
    refine Gx.regionO (fun j => false) 7 [0, 1, 2, 3, 4, 5, 6] (fun _ => [Hp.rec_ b3 [ptr b2 0, .int .i64 0, .int .i64 0, .int .i64 0, .bool false, .int .u32 0, .int .i64 0], Hp.rec_ b2 [.int .i64 3, .int .i64 0, .bool wr, .int .i64 0, .int .i64 ((mom : Nat) : Int), .int .i64 (-1)], Hp.rec_ b1 [.int .i64 kd, .int .i64 3, .int .i64 lo, .int .i64 sr, .bool wr, .int .i64 val], Hp.rec_ S [cv, v8, nowV (mo.map Om.b) a0, nowV (mo.map Om.b) a1, nowV (mo.map Om.b) a2, .pointer none], Hp.own Fsd 3 cv cs, Hp.own FP 1 v8 ((mo.map Om.b) ++ [b3]), Hp.big opH mo, R]) Try.mixed (by kernel_rfl) rfl ?_
    refine Gw.val rfl rfl rfl rfl rfl (fun us => val_move rfl rfl) ?_
    refine Gw.val rfl rfl rfl rfl rfl (fun us => Val.cast (val_fieldAddr rfl Try.underlying24 rfl Try.ty3 rfl rfl) (v' := ptr b1 1) rfl) ?_
    refine Gw.val0 rfl rfl rfl (by kernel_rfl) rfl rfl (val_load rfl Try.ty3 rfl rfl (cell_rec (k := 2) rfl rfl)) ?_
    refine Gw.val rfl rfl rfl rfl rfl (fun us => val_move rfl rfl) ?_
    refine Gw.val rfl rfl rfl rfl rfl (fun us => val_nilCheck rfl rfl) ?_
    refine Gw.val rfl rfl rfl rfl rfl (fun us => Val.cast (val_fieldAddr rfl Try.underlying47 rfl Try.ty45 rfl rfl) (v' := ptr S 2) rfl) ?_
    refine Gw.val rfl rfl rfl rfl rfl (fun us => Val.cast (val_ixaA rfl Try.underlying45 Try.ty44 rfl rfl (j := 3) (rfl) (by omega)) (v' := ptr S 5) rfl) ?_
    refine Gw.done ?_
    refine Gx.norm (l' := [Hp.rec_ b3 [ptr b2 0, .int .i64 0, .int .i64 0, .int .i64 0, .bool false, .int .u32 0, .int .i64 0], Hp.rec_ b2 [.int .i64 3, .int .i64 0, .bool wr, .int .i64 0, .int .i64 ((mom : Nat) : Int), .int .i64 (-1)], Hp.rec_ b1 [.int .i64 kd, .int .i64 3, .int .i64 lo, .int .i64 sr, .bool wr, .int .i64 val], Hp.rec_ S [cv, v8, nowV (mo.map Om.b) a0, nowV (mo.map Om.b) a1, nowV (mo.map Om.b) a2, .pointer none], Hp.own Fsd 3 cv cs, Hp.own FP 1 v8 ((mo.map Om.b) ++ [b3]), Hp.big opH mo, R]) rfl ?_
    refine Gx.eff0 rfl rfl (eff_store rfl Try.ty44 rfl rfl (us := [ptr b3 0]) rfl rfl rfl (k := 3) rfl (rfl) (vs' := [cv, v8, nowV (mo.map Om.b) a0, nowV (mo.map Om.b) a1, nowV (mo.map Om.b) a2, ptr b3 0]) (rfl) (l' := [Hp.rec_ b3 [ptr b2 0, .int .i64 0, .int .i64 0, .int .i64 0, .bool false, .int .u32 0, .int .i64 0], Hp.rec_ b2 [.int .i64 3, .int .i64 0, .bool wr, .int .i64 0, .int .i64 ((mom : Nat) : Int), .int .i64 (-1)], Hp.rec_ b1 [.int .i64 kd, .int .i64 3, .int .i64 lo, .int .i64 sr, .bool wr, .int .i64 val], Hp.rec_ S [cv, v8, nowV (mo.map Om.b) a0, nowV (mo.map Om.b) a1, nowV (mo.map Om.b) a2, ptr b3 0], Hp.own Fsd 3 cv cs, Hp.own FP 1 v8 ((mo.map Om.b) ++ [b3]), Hp.big opH mo, R]) rfl) ?_
    rintro _ _ rfl
    refine Gx.done ?_
    refine Gx.thenN ?_
    refine Gx.seq ?_
    refine Gx.region ?_
    refine Gx.val rfl rfl rfl (val_assign rfl rfl) ?_
    refine Gx.done ?_
    refine Gx.thenN ?_
    refine Gx.ret ?_
    refine Gx.drop 2 rfl ?_
    refine Gx.front 6 rfl ?_
    refine Gx.front 2 rfl ?_
    refine Gx.front 2 rfl ?_
    refine Gx.front 6 rfl ?_
    refine Gx.front 6 rfl ?_
    refine Gx.front 6 rfl ?_
    refine Gx.front 6 rfl ?_
    have hbs : (mo ++ [(⟨b3, b2, newO 3 wr val mom⟩ : Om)]).map Om.b = mo.map Om.b ++ [b3] := by simp
    have e0 : nowV (mo.map Om.b) a0 = nowV ((mo ++ [(⟨b3, b2, newO 3 wr val mom⟩ : Om)]).map Om.b) a0 := by rw [hbs, nowV_more]; intro k hk; rw [List.length_map]; exact h0 k hk
    have e1 : nowV (mo.map Om.b) a1 = nowV ((mo ++ [(⟨b3, b2, newO 3 wr val mom⟩ : Om)]).map Om.b) a1 := by rw [hbs, nowV_more]; intro k hk; rw [List.length_map]; exact h1 k hk
    have e2 : nowV (mo.map Om.b) a2 = nowV ((mo ++ [(⟨b3, b2, newO 3 wr val mom⟩ : Om)]).map Om.b) a2 := by rw [hbs, nowV_more]; intro k hk; rw [List.length_map]; exact h2 k hk
    have e3 : ptr b3 0 = nowV ((mo ++ [(⟨b3, b2, newO 3 wr val mom⟩ : Om)]).map Om.b) (some mo.length) := by rw [hbs, show mo.length = (mo.map Om.b).length from by simp, nowV_last]
    have hbig : Hp.big opH (mo ++ [(⟨b3, b2, newO 3 wr val mom⟩ : Om)]) = Hp.big opH mo * opH (⟨b3, b2, newO 3 wr val mom⟩ : Om) := by rw [Hp.big_append]; show _ * (_ * 1) = _; rw [Hp.mul_one]
    refine Gx.ret1 Try.results14 rfl ?_
    refine ⟨b3, b2, v8, rfl, hiv8, ?_⟩
    rw [← regP_shut, hbig, ← e0, ← e1, ← e2, ← e3, hbs]
    simp only [newO, h4, if_true, Bool.false_eq_true, if_false, opH, mk_nil]
    show _ * (_ * (_ * (_ * (_ * (_ * (_ * 1)))))) = _ * (_ * (_ * (_ * (_ * 1))))
    simp only [Hp.mul_assoc, Hp.mul_one]
    rfl

end Go.Proofs.Ytjiefamdpbnngaa
