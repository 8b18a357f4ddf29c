/- A pay. The walks. No condition. -/
import Derived.Test.YtfeeociajllbhaaDoorLD1
namespace Go.Proofs.YtfeeociajllbhaaDoor.Lg
open Go.RowKit
set_option linter.unusedVariables false
set_option linter.unusedSimpArgs false
set_option maxRecDepth 100000

theorem is17_any {W : World} {b : Nat} {v : Value} {l : List Acc} (k : Int) (hb : b < W.heap.size) (hc : W.cell? ⟨b, 0, none⟩ = some v) (hs : SlS FA 2 W v l) :
    Calls Tryd.prog 37 #[.int .i64 k, ptr b 0] W fun e w' => e = .returned (.bool (decide (inA l k))) ∧ Below W.heap.size W w' := by
  refine calls_pure (Gx.enter (l := []) Tryd.func37 rfl Tryd.ntmps37 rfl (Sat.start W) ?_)
  refine Gx.know (m' := [(0, .int .i64 k), (1, ptr b 0)]) (.cons rfl (.cons rfl .nil)) ?_
  refine Gx.seq ?_
  refine Gx.region ?_
  refine Gx.val rfl rfl rfl (val_assign rfl rfl) ?_
  refine Gx.done ?_
  refine Gx.thenN ?_
  refine Gx.seq ?_
  refine Gx.region ?_
  refine Gx.val rfl rfl rfl (val_move rfl rfl) ?_
  refine Gx.val rfl rfl rfl (val_geq rfl rfl rfl) ?_
  refine Gx.val rfl rfl rfl (val_move rfl rfl) ?_
  refine Gx.cases (t := 6) rfl (fun h1 => ?_) (fun h1 => ?_)
  · refine Gx.valg rfl rfl rfl rfl rfl (val_move rfl rfl) ?_
    refine Gx.valg rfl rfl rfl rfl rfl (val_load rfl Tryd.ty35 rfl rfl (cell_old hb hc)) ?_
    refine Gx.valg rfl rfl rfl rfl rfl (val_len rfl Tryd.underlying35 rfl (len_base hs)) ?_
    refine Gx.valg rfl rfl rfl rfl rfl (val_lss rfl rfl rfl) ?_
    refine Gx.val rfl rfl rfl (val_pickT rfl rfl rfl) ?_
    refine Gx.val rfl rfl rfl (val_assign rfl rfl) ?_
    refine Gx.done ?_
    refine Gx.thenN ?_
    refine Gx.ret ?_
    refine Gx.ret1 Tryd.results37 rfl ?_
    exact congrArg Value.bool (decide_eq_decide.2 ⟨fun h => ⟨by omega, h⟩, fun h => h.2⟩)
  · refine Gx.skipg rfl rfl rfl rfl rfl rfl ?_
    refine Gx.skipg rfl rfl rfl rfl rfl rfl ?_
    refine Gx.skipg rfl rfl rfl rfl rfl rfl ?_
    refine Gx.skipg rfl rfl rfl rfl rfl rfl ?_
    refine Gx.val rfl rfl rfl (val_pickF rfl rfl rfl) ?_
    refine Gx.val rfl rfl rfl (val_assign rfl rfl) ?_
    refine Gx.done ?_
    refine Gx.thenN ?_
    refine Gx.ret ?_
    refine Gx.ret1 Tryd.results37 rfl ?_
    exact congrArg Value.bool (decide_eq_false fun h => absurd h.1 (by assumption)).symm

theorem refuse_any (k : Int) (W : World) : Calls Tryd.prog 38 #[.int .i64 k] W fun e w' => e = .returned (.iface 98 (.agg #[.int .i64 k])) ∧ Below W.heap.size W w' := by
  refine calls_pure (Gx.enter (l := []) Tryd.func38 rfl Tryd.ntmps38 rfl (Sat.start W) ?_)
  refine Gx.know (m' := [(0, .int .i64 k)]) (.cons rfl .nil) ?_
  refine Gx.seq ?_
  refine Gx.region ?_
  refine Gx.val rfl rfl rfl (val_assign rfl rfl) ?_
  refine Gx.done ?_
  refine Gx.thenN ?_
  refine Gx.seq ?_
  refine Gx.region ?_
  refine Gx.val rfl rfl rfl (val_move rfl rfl) ?_
  refine Gx.val rfl rfl rfl (val_build rfl (qs := [(0, .int .i64 k)]) rfl rfl (fun w => by go_simp) (v := .agg #[.int .i64 k])) ?_
  refine Gx.val rfl rfl rfl (val_makeInterface rfl rfl (fun w => by kernel_rfl)) ?_
  refine Gx.val rfl rfl rfl (val_assign rfl rfl) ?_
  refine Gx.done ?_
  refine Gx.thenN ?_
  refine Gx.ret ?_
  refine Gx.ret1 Tryd.results38 rfl ?_
  rfl

theorem bad12_any (k : Int) (W : World) : Calls Tryd.prog 27 #[.int .i64 k] W fun e w' => e = .returned (.bool (decide (k < 0 ∨ 1099511627776 < k))) ∧ Below W.heap.size W w' := by
  refine calls_pure (Gx.enter (l := []) Tryd.func27 rfl Tryd.ntmps27 rfl (Sat.start W) ?_)
  refine Gx.know (m' := [(0, .int .i64 k)]) (.cons rfl .nil) ?_
  refine Gx.seq ?_
  refine Gx.region ?_
  refine Gx.val rfl rfl rfl (val_assign rfl rfl) ?_
  refine Gx.done ?_
  refine Gx.thenN ?_
  refine Gx.seq ?_
  refine Gx.region ?_
  refine Gx.val rfl rfl rfl (val_move rfl rfl) ?_
  refine Gx.val rfl rfl rfl (val_lss rfl rfl rfl) ?_
  refine Gx.val rfl rfl rfl (val_move rfl rfl) ?_
  refine Gx.cases (t := 5) rfl (fun h1 => ?_) (fun h1 => ?_)
  · refine Gx.skipg rfl rfl rfl rfl rfl rfl ?_
    refine Gx.skipg rfl rfl rfl rfl rfl rfl ?_
    refine Gx.val rfl rfl rfl (val_pickT rfl rfl rfl) ?_
    refine Gx.val rfl rfl rfl (val_assign rfl rfl) ?_
    refine Gx.done ?_
    refine Gx.thenN ?_
    refine Gx.ret ?_
    refine Gx.ret1 Tryd.results27 rfl ?_
    exact congrArg Value.bool (by simp; try omega)
  · refine Gx.valg rfl rfl rfl rfl rfl (val_move rfl rfl) ?_
    refine Gx.valg rfl rfl rfl rfl rfl (val_gtr rfl rfl rfl) ?_
    refine Gx.val rfl rfl rfl (val_pickF rfl rfl rfl) ?_
    refine Gx.val rfl rfl rfl (val_assign rfl rfl) ?_
    refine Gx.done ?_
    refine Gx.thenN ?_
    refine Gx.ret ?_
    refine Gx.ret1 Tryd.results27 rfl ?_
    exact congrArg Value.bool (by simp; try omega)

theorem bd_set {m : Nat} {B B' : Int} {l : List Acc} {i : Nat} {r : Acc} (h : ∀ (i : Nat) (a : Acc), l[i]? = some a → 0 ≤ a.n ∧ a.n ≤ B ∧ a.ser ≤ m) (hB : B ≤ B') (hr : 0 ≤ r.n ∧ r.n ≤ B' ∧ r.ser ≤ m) : ∀ (j : Nat) (a : Acc), (l.set i r)[j]? = some a → 0 ≤ a.n ∧ a.n ≤ B' ∧ a.ser ≤ m := fun j a ha => by
  rcases set_get ha with ⟨_, rfl⟩ | ⟨_, h'⟩
  · exact hr
  · have := h j a h'; omega
theorem sep1' (p R : Hp) : sep [p, R] = p * R := by show p * (R * 1) = _; rw [Hp.mul_one]
theorem pay_any {W w : World} {lv : Value} {l : List Acc} {p : Py} {m : Nat} {R : Hp} (hil : IsS lv) (hbd : BdA m l) (hm : m ≤ 1000) (h12 : l.length ≤ 12) (H : Sat W w (Hp.own FA 2 lv l * R)) :
    Calls Tryd.prog 29 #[lv, .agg #[.int .i64 p.frm, .int .i64 p.to, .int .i64 p.ser, .int .i64 p.n]] w (Ret W fun v l9 => v = errV (payC l p) ∧ sep l9 = Hp.own FA 2 lv (payL l p) * R) := by
  have hB0 : ∀ (i : Nat) (a : Acc), l[i]? = some a → 0 ≤ a.n ∧ a.n ≤ 1099511627776 ∧ a.ser ≤ m := fun i a ha => by have := hbd i a ha; omega
  refine Gx.enter (l := [Hp.own FA 2 lv l, R]) Tryd.func29 rfl Tryd.ntmps29 rfl (H.frame1) ?_
  refine Gx.know (m' := [(0, lv), (1, .agg #[.int .i64 p.frm, .int .i64 p.to, .int .i64 p.ser, .int .i64 p.n])]) (.cons rfl (.cons rfl .nil)) ?_
  refine Gx.seq ?_
  refine Gx.region ?_
  refine Gx.eff rfl rfl rfl (eff_box rfl rfl (vs := [lv]) hil.cellsL) ?_
  rintro _ _ ⟨b1, rfl, rfl⟩
  refine Gx.eff rfl rfl rfl (eff_box rfl rfl (vs := [.int .i64 p.frm, .int .i64 p.to, .int .i64 p.ser, .int .i64 p.n]) rfl) ?_
  rintro _ _ ⟨b2, rfl, rfl⟩
  refine Gx.val rfl rfl rfl (val_assign rfl rfl) ?_
  refine Gx.done ?_
  refine Gx.thenN ?_
  refine Gx.seq ?_
  refine Gx.region ?_
  refine Gx.val rfl rfl rfl (Val.cast (val_makeFunc (us := []) (vs := [ptr b1 0]) rfl rfl rfl) (v' := .func (.func 37) #[] #[ptr b1 0]) rfl) ?_
  refine Gx.val rfl rfl rfl (val_assign rfl rfl) ?_
  refine Gx.done ?_
  refine Gx.thenN ?_
  refine Gx.seq ?_
  refine Gx.seq ?_
  refine Gx.region ?_
  refine Gx.val rfl rfl rfl (val_move rfl rfl) ?_
  refine Gx.val rfl rfl rfl (Val.cast (val_fieldAddr rfl Tryd.underlying82 rfl Tryd.ty3 rfl rfl) (v' := ptr b2 0) rfl) ?_
  refine Gx.val rfl rfl rfl (val_load rfl Tryd.ty3 rfl rfl (cell_rec (k := 0) rfl rfl)) ?_
  refine Gx.val rfl rfl rfl (val_callV (vs := [.int .i64 p.frm]) (fs := []) (cs := [ptr b1 0]) rfl Tryd.fn37 rfl rfl (fun w H => is17_any p.frm (H.at_ (k := 1) rfl).rec_.1 ((H.at_ (k := 1) rfl).cell 0 (u := lv) rfl) ((H.at_ (k := 2) rfl).sls (by omega)))) ?_
  refine Gx.val rfl rfl rfl (val_notD rfl rfl) ?_
  refine Gx.val rfl rfl rfl (val_move rfl rfl) ?_
  refine Gx.cases (t := 14) rfl (fun h3 => ?_) (fun h3 => ?_)
  · refine Gx.skipg rfl rfl rfl rfl rfl rfl ?_
    refine Gx.skipg rfl rfl rfl rfl rfl rfl ?_
    refine Gx.skipg rfl rfl rfl rfl rfl rfl ?_
    refine Gx.skipg rfl rfl rfl rfl rfl rfl ?_
    refine Gx.skipg rfl rfl rfl rfl rfl rfl ?_
    refine Gx.val rfl rfl rfl (val_pickT rfl rfl rfl) ?_
    refine Gx.val rfl rfl rfl (val_move rfl rfl) ?_
    refine Gx.skipg rfl rfl rfl rfl rfl rfl ?_
    refine Gx.skipg rfl rfl rfl rfl rfl rfl ?_
    refine Gx.skipg rfl rfl rfl rfl rfl rfl ?_
    refine Gx.val rfl rfl rfl (val_pickT rfl rfl rfl) ?_
    refine Gx.done ?_
    refine Gx.thenN ?_
    refine Gx.t rfl ?_
    refine Gx.seq ?_
    refine Gx.region ?_
    refine Gx.val rfl rfl rfl (val_call (vs := [.int .i64 2]) rfl Tryd.fn38 rfl (fun w H => refuse_any 2 _)) ?_
    refine Gx.val rfl rfl rfl (val_assign rfl rfl) ?_
    refine Gx.done ?_
    refine Gx.thenN ?_
    refine Gx.ret ?_
    refine Gx.thenR ?_
    refine Gx.drop 1 rfl ?_
    refine Gx.drop 0 rfl ?_
    refine Gx.ret1 Tryd.results29 rfl ?_
    have hpc : payC l p = 2 := by unfold payC; rw [if_pos (by first | (left; assumption) | (right; left; assumption) | (right; right; omega))]
    refine ⟨by rw [hpc]; rfl, ?_⟩
    rw [show payL l p = l from by unfold payL; rw [if_neg (by rw [hpc]; decide)]]
    exact sep1' _ _
  · refine Gx.valg rfl rfl rfl rfl rfl (val_move rfl rfl) ?_
    refine Gx.valg rfl rfl rfl rfl rfl (Val.cast (val_fieldAddr rfl Tryd.underlying82 rfl Tryd.ty3 rfl rfl) (v' := ptr b2 1) rfl) ?_
    refine Gx.valg rfl rfl rfl rfl rfl (val_load rfl Tryd.ty3 rfl rfl (cell_rec (k := 0) rfl rfl)) ?_
    refine Gx.valg rfl rfl rfl rfl rfl (val_callV (vs := [.int .i64 p.to]) (fs := []) (cs := [ptr b1 0]) rfl Tryd.fn37 rfl rfl (fun w H => is17_any p.to (H.at_ (k := 1) rfl).rec_.1 ((H.at_ (k := 1) rfl).cell 0 (u := lv) rfl) ((H.at_ (k := 2) rfl).sls (by omega)))) ?_
    refine Gx.valg rfl rfl rfl rfl rfl (val_notD rfl rfl) ?_
    refine Gx.val rfl rfl rfl (val_pickF rfl rfl rfl) ?_
    refine Gx.val rfl rfl rfl (val_move rfl rfl) ?_
    refine Gx.cases (t := 21) rfl (fun h4 => ?_) (fun h4 => ?_)
    · refine Gx.skipg rfl rfl rfl rfl rfl rfl ?_
      refine Gx.skipg rfl rfl rfl rfl rfl rfl ?_
      refine Gx.skipg rfl rfl rfl rfl rfl rfl ?_
      refine Gx.val rfl rfl rfl (val_pickT rfl rfl rfl) ?_
      refine Gx.done ?_
      refine Gx.thenN ?_
      refine Gx.t rfl ?_
      refine Gx.seq ?_
      refine Gx.region ?_
      refine Gx.val rfl rfl rfl (val_call (vs := [.int .i64 2]) rfl Tryd.fn38 rfl (fun w H => refuse_any 2 _)) ?_
      refine Gx.val rfl rfl rfl (val_assign rfl rfl) ?_
      refine Gx.done ?_
      refine Gx.thenN ?_
      refine Gx.ret ?_
      refine Gx.thenR ?_
      refine Gx.drop 1 rfl ?_
      refine Gx.drop 0 rfl ?_
      refine Gx.ret1 Tryd.results29 rfl ?_
      have hpc : payC l p = 2 := by unfold payC; rw [if_pos (by first | (left; assumption) | (right; left; assumption) | (right; right; omega))]
      refine ⟨by rw [hpc]; rfl, ?_⟩
      rw [show payL l p = l from by unfold payL; rw [if_neg (by rw [hpc]; decide)]]
      exact sep1' _ _
    · refine Gx.valg rfl rfl rfl rfl rfl (Val.cast (val_fieldAddr rfl Tryd.underlying82 rfl Tryd.ty2 rfl rfl) (v' := ptr b2 3) rfl) ?_
      refine Gx.valg rfl rfl rfl rfl rfl (val_load rfl Tryd.ty2 rfl rfl (cell_rec (k := 0) rfl rfl)) ?_
      refine Gx.valg rfl rfl rfl rfl rfl (val_lss rfl rfl rfl) ?_
      refine Gx.val rfl rfl rfl (val_pickF rfl rfl rfl) ?_
      refine Gx.done ?_
      refine Gx.thenN ?_
      refine Gx.dec rfl (fun h5 => ?_) (fun h5 => ?_)
      · refine Gx.seq ?_
        refine Gx.region ?_
        refine Gx.val rfl rfl rfl (val_call (vs := [.int .i64 2]) rfl Tryd.fn38 rfl (fun w H => refuse_any 2 _)) ?_
        refine Gx.val rfl rfl rfl (val_assign rfl rfl) ?_
        refine Gx.done ?_
        refine Gx.thenN ?_
        refine Gx.ret ?_
        refine Gx.thenR ?_
        refine Gx.drop 1 rfl ?_
        refine Gx.drop 0 rfl ?_
        refine Gx.ret1 Tryd.results29 rfl ?_
        have hpc : payC l p = 2 := by unfold payC; rw [if_pos (by first | (left; assumption) | (right; left; assumption) | (right; right; omega))]
        refine ⟨by rw [hpc]; rfl, ?_⟩
        rw [show payL l p = l from by unfold payL; rw [if_neg (by rw [hpc]; decide)]]
        exact sep1' _ _
      · refine Gx.skip ?_
        refine Gx.thenN ?_
        refine Gx.seq ?_
        have hin : inA l p.frm ∧ inA l p.to ∧ 1 ≤ p.n := by refine ⟨?_, ?_, ?_⟩ <;> first | omega | assumption | simp_all
        obtain ⟨hif, hit, h1p⟩ := hin
        have hfl : p.frm.toNat < l.length := by unfold inA at hif; omega
        have htl : p.to.toNat < l.length := by unfold inA at hit; omega
        have hf0 : 0 ≤ p.frm := hif.1
        have ht0 : 0 ≤ p.to := hit.1
        have hno : ¬ (¬ inA l p.frm ∨ ¬ inA l p.to ∨ p.n < 1) := fun h => h.elim (fun q => q hif) (fun q => q.elim (fun r => r hit) (fun r => by omega))
        have hls : ∀ (i : Nat) (r : Acc), (l.set i r).length = l.length := fun i r => by simp
        refine Gx.regionQ Tryd.mixed (by kernel_rfl) ?_
        refine Gq.val rfl rfl rfl (val_load rfl Tryd.ty35 rfl rfl (cell_rec (k := 1) rfl rfl)) ?_
        refine Gq.val rfl rfl rfl (Val.cast (val_fieldAddr rfl Tryd.underlying82 rfl Tryd.ty3 rfl rfl) (v' := ptr b2 0) rfl) ?_
        refine Gq.val rfl rfl rfl (val_load rfl Tryd.ty3 rfl rfl (cell_rec (k := 0) rfl rfl)) ?_
        obtain ⟨x6, hx6⟩ := get_of_lt (xs := l) (k := p.frm.toNat) (by omega)
        refine Gq.val rfl rfl rfl (val_ixa rfl Tryd.underlying35 Tryd.ty43 rfl rfl (j := p.frm.toNat) (by omega) (reach_own (k := 2) rfl hx6)) ?_
        refine Gq.val rfl rfl rfl (val_load rfl Tryd.ty35 rfl rfl (cell_rec (k := 1) rfl rfl)) ?_
        refine Gq.val rfl rfl rfl (Val.cast (val_fieldAddr rfl Tryd.underlying82 rfl Tryd.ty3 rfl rfl) (v' := ptr b2 1) rfl) ?_
        refine Gq.val rfl rfl rfl (val_load rfl Tryd.ty3 rfl rfl (cell_rec (k := 0) rfl rfl)) ?_
        obtain ⟨x7, hx7⟩ := get_of_lt (xs := l) (k := p.to.toNat) (by omega)
        refine Gq.val rfl rfl rfl (val_ixa rfl Tryd.underlying35 Tryd.ty43 rfl rfl (j := p.to.toNat) (by omega) (reach_own (k := 2) rfl hx7)) ?_
        refine Gq.val rfl rfl rfl (val_assign rfl rfl) ?_
        refine Gq.val rfl rfl rfl (val_assign rfl rfl) ?_
        refine Gq.done ?_
        refine Gx.thenN ?_
        refine Gx.seq ?_
        refine Gx.block ?_
        refine Gx.seq ?_
        refine Gx.regionQ Tryd.mixed (by kernel_rfl) ?_
        refine Gq.val rfl rfl rfl (Val.cast (val_fieldAddr rfl Tryd.underlying82 rfl Tryd.ty3 rfl rfl) (v' := ptr b2 2) rfl) ?_
        refine Gq.val rfl rfl rfl (val_load rfl Tryd.ty3 rfl rfl (cell_rec (k := 0) rfl rfl)) ?_
        refine Gq.val rfl rfl rfl (val_move rfl rfl) ?_
        refine Gq.val rfl rfl rfl (val_nilCheck rfl rfl) ?_
        refine Gq.val rfl rfl rfl (Val.cast (val_fieldAddr rfl Tryd.underlying43 rfl Tryd.ty3 rfl rfl) (v' := ptr (sB lv) (sO lv + p.frm.toNat * 2 + 1)) rfl) ?_
        refine Gq.val rfl rfl rfl (val_load rfl Tryd.ty3 rfl rfl (cell_own (i := 1) (k := 2) rfl hx6 rfl)) ?_
        have hbx6 := hbd _ _ hx6
        refine Gq.val rfl rfl rfl (val_neq rfl rfl rfl) ?_
        refine Gq.val rfl rfl rfl (val_assign rfl rfl) ?_
        refine Gq.done ?_
        refine Gx.thenN ?_
        refine Gx.dec rfl (fun h8 => ?_) (fun h8 => ?_)
        · refine Gx.seq ?_
          refine Gx.region ?_
          refine Gx.val rfl rfl rfl (val_call (vs := [.int .i64 3]) rfl Tryd.fn38 rfl (fun w H => refuse_any 3 _)) ?_
          refine Gx.val rfl rfl rfl (val_assign rfl rfl) ?_
          refine Gx.done ?_
          refine Gx.thenN ?_
          refine Gx.ret ?_
          refine Gx.blkR ?_
          refine Gx.thenR ?_
          refine Gx.drop 1 rfl ?_
          refine Gx.drop 0 rfl ?_
          have ha := accI_of hx6
          have hb := accI_of hx7
          refine Gx.ret1 Tryd.results29 rfl ?_
          have hpc : payC l p = 3 := by unfold payC; rw [if_neg hno, if_pos (by rw [ha]; omega)]
          refine ⟨by rw [hpc]; rfl, ?_⟩
          rw [show payL l p = l from by unfold payL; rw [if_neg (by rw [hpc]; decide)]]
          exact sep1' _ _
        · refine Gx.seq ?_
          refine Gx.regionQ Tryd.mixed (by kernel_rfl) ?_
          refine Gq.val rfl rfl rfl (val_move rfl rfl) ?_
          refine Gq.val rfl rfl rfl (val_nilCheck rfl rfl) ?_
          refine Gq.val rfl rfl rfl (Val.cast (val_fieldAddr rfl Tryd.underlying43 rfl Tryd.ty2 rfl rfl) (v' := ptr (sB lv) (sO lv + p.frm.toNat * 2)) rfl) ?_
          refine Gq.val rfl rfl rfl (val_load rfl Tryd.ty2 rfl rfl (cell_own (i := 0) (k := 2) rfl hx6 rfl)) ?_
          have hbx6 := hbd _ _ hx6
          refine Gq.val rfl rfl rfl (Val.cast (val_fieldAddr rfl Tryd.underlying82 rfl Tryd.ty2 rfl rfl) (v' := ptr b2 3) rfl) ?_
          refine Gq.val rfl rfl rfl (val_load rfl Tryd.ty2 rfl rfl (cell_rec (k := 0) rfl rfl)) ?_
          refine Gq.val rfl rfl rfl (val_lss rfl rfl rfl) ?_
          refine Gq.val rfl rfl rfl (val_assign rfl rfl) ?_
          refine Gq.done ?_
          refine Gx.thenN ?_
          refine Gx.dec rfl (fun h9 => ?_) (fun h9 => ?_)
          · refine Gx.seq ?_
            refine Gx.region ?_
            refine Gx.val rfl rfl rfl (val_call (vs := [.int .i64 5]) rfl Tryd.fn38 rfl (fun w H => refuse_any 5 _)) ?_
            refine Gx.val rfl rfl rfl (val_assign rfl rfl) ?_
            refine Gx.done ?_
            refine Gx.thenN ?_
            refine Gx.ret ?_
            refine Gx.blkR ?_
            refine Gx.thenR ?_
            refine Gx.drop 1 rfl ?_
            refine Gx.drop 0 rfl ?_
            have ha := accI_of hx6
            have hb := accI_of hx7
            refine Gx.ret1 Tryd.results29 rfl ?_
            have hpc : payC l p = 5 := by unfold payC; rw [if_neg hno, if_neg (by rw [ha]; omega), if_pos (by rw [ha]; omega)]
            refine ⟨by rw [hpc]; rfl, ?_⟩
            rw [show payL l p = l from by unfold payL; rw [if_neg (by rw [hpc]; decide)]]
            exact sep1' _ _
          · refine Gx.seq ?_
            refine Gx.regionQ Tryd.mixed (by kernel_rfl) ?_
            refine Gq.val rfl rfl rfl (val_move rfl rfl) ?_
            refine Gq.val rfl rfl rfl (val_move rfl rfl) ?_
            refine Gq.val rfl rfl rfl (val_neqPP (n := 1) rfl Tryd.underlying102 (fun w => by kernel_rfl) rfl rfl (q := p.frm.toNat ≠ p.to.toNat) (by omega)) ?_
            refine Gq.val rfl rfl rfl (val_move rfl rfl) ?_
            refine Gq.cases (t := 57) rfl (fun h10 => ?_) (fun h10 => ?_)
            · refine Gq.valg rfl rfl rfl rfl rfl (val_move rfl rfl) ?_
              refine Gq.valg rfl rfl rfl rfl rfl (val_nilCheck rfl rfl) ?_
              refine Gq.valg rfl rfl rfl rfl rfl (Val.cast (val_fieldAddr rfl Tryd.underlying43 rfl Tryd.ty2 rfl rfl) (v' := ptr (sB lv) (sO lv + p.to.toNat * 2)) rfl) ?_
              refine Gq.valg rfl rfl rfl rfl rfl (val_load rfl Tryd.ty2 rfl rfl (cell_own (i := 0) (k := 2) rfl hx7 rfl)) ?_
              have hbx7 := hbd _ _ hx7
              refine Gq.valg rfl rfl rfl rfl rfl (Val.cast (val_fieldAddr rfl Tryd.underlying82 rfl Tryd.ty2 rfl rfl) (v' := ptr b2 3) rfl) ?_
              refine Gq.valg rfl rfl rfl rfl rfl (val_load rfl Tryd.ty2 rfl rfl (cell_rec (k := 0) rfl rfl)) ?_
              refine Gq.valg rfl rfl rfl rfl rfl (val_sub rfl rfl rfl (r := (1099511627776 - p.n)) (w64 rfl (by omega))) ?_
              refine Gq.valg rfl rfl rfl rfl rfl (val_gtr rfl rfl rfl) ?_
              refine Gq.val rfl rfl rfl (val_pickT rfl rfl rfl) ?_
              refine Gq.val rfl rfl rfl (val_assign rfl rfl) ?_
              refine Gq.done ?_
              refine Gx.thenN ?_
              refine Gx.dec rfl (fun h11 => ?_) (fun h11 => ?_)
              · refine Gx.seq ?_
                refine Gx.region ?_
                refine Gx.val rfl rfl rfl (val_call (vs := [.int .i64 7]) rfl Tryd.fn38 rfl (fun w H => refuse_any 7 _)) ?_
                refine Gx.val rfl rfl rfl (val_assign rfl rfl) ?_
                refine Gx.done ?_
                refine Gx.thenN ?_
                refine Gx.ret ?_
                refine Gx.blkR ?_
                refine Gx.thenR ?_
                refine Gx.drop 1 rfl ?_
                refine Gx.drop 0 rfl ?_
                have ha := accI_of hx6
                have hb := accI_of hx7
                refine Gx.ret1 Tryd.results29 rfl ?_
                have hpc : payC l p = 7 := by unfold payC; rw [if_neg hno, if_neg (by rw [ha]; omega), if_neg (by rw [ha]; omega), if_pos ⟨by omega, by rw [hb]; omega⟩]
                refine ⟨by rw [hpc]; rfl, ?_⟩
                rw [show payL l p = l from by unfold payL; rw [if_neg (by rw [hpc]; decide)]]
                exact sep1' _ _
              · refine Gx.skip ?_
                refine Gx.blkN ?_
                refine Gx.thenN ?_
                refine Gx.seq ?_
                refine Gx.regionO (fun j => false) 9 [0, 1, 2, 3, 4, 5, 6, 7, 8] (fun _ => [Hp.rec_ b2 [.int .i64 p.frm, .int .i64 p.to, .int .i64 p.ser, .int .i64 p.n], Hp.rec_ b1 [lv], Hp.own FA 2 lv l, R]) Tryd.mixed (by kernel_rfl) rfl ?_
                refine Gw.val rfl rfl rfl rfl rfl (fun us => val_move rfl rfl) ?_
                refine Gw.val rfl rfl rfl rfl rfl (fun us => val_nilCheck rfl rfl) ?_
                refine Gw.val rfl rfl rfl rfl rfl (fun us => Val.cast (val_fieldAddr rfl Tryd.underlying43 rfl Tryd.ty2 rfl rfl) (v' := ptr (sB lv) (sO lv + p.frm.toNat * 2)) rfl) ?_
                refine Gw.val0 rfl rfl rfl (by kernel_rfl) rfl rfl (val_load rfl Tryd.ty2 rfl rfl (cell_own (i := 0) (k := 2) rfl hx6 rfl)) ?_
                have hbx6 := hbd _ _ hx6
                refine Gw.val rfl rfl rfl rfl rfl (fun us => Val.cast (val_fieldAddr rfl Tryd.underlying82 rfl Tryd.ty2 rfl rfl) (v' := ptr b2 3) rfl) ?_
                refine Gw.val0 rfl rfl rfl (by kernel_rfl) rfl rfl (val_load rfl Tryd.ty2 rfl rfl (cell_rec (k := 0) rfl rfl)) ?_
                refine Gw.val rfl rfl rfl rfl rfl (fun us => val_sub rfl rfl rfl (r := (x6.n - p.n)) (w64 rfl (by omega))) ?_
                refine Gw.val rfl rfl rfl rfl rfl (fun us => val_nilCheck rfl rfl) ?_
                refine Gw.val rfl rfl rfl rfl rfl (fun us => Val.cast (val_fieldAddr rfl Tryd.underlying43 rfl Tryd.ty2 rfl rfl) (v' := ptr (sB lv) (sO lv + p.frm.toNat * 2)) rfl) ?_
                refine Gw.done ?_
                refine Gx.norm (l' := [Hp.rec_ b2 [.int .i64 p.frm, .int .i64 p.to, .int .i64 p.ser, .int .i64 p.n], Hp.rec_ b1 [lv], Hp.own FA 2 lv l, R]) rfl ?_
                refine Gx.eff0 rfl rfl (eff_storeEl (i := 0) (e' := (⟨(x6.n - p.n), x6.ser⟩ : Acc)) rfl Tryd.ty2 rfl rfl rfl rfl (k := 2) rfl FA_len hx6 (by decide) (rfl) (l' := [Hp.rec_ b2 [.int .i64 p.frm, .int .i64 p.to, .int .i64 p.ser, .int .i64 p.n], Hp.rec_ b1 [lv], Hp.own FA 2 lv (l.set p.frm.toNat (⟨(x6.n - p.n), x6.ser⟩ : Acc)), R]) rfl) ?_
                rintro _ _ rfl
                refine Gx.done ?_
                refine Gx.thenN ?_
                refine Gx.seq ?_
                refine Gx.regionO (fun j => false) 9 [0, 1, 2, 3, 4, 5, 6, 7, 8] (fun _ => [Hp.rec_ b2 [.int .i64 p.frm, .int .i64 p.to, .int .i64 p.ser, .int .i64 p.n], Hp.rec_ b1 [lv], Hp.own FA 2 lv (l.set p.frm.toNat (⟨(x6.n - p.n), x6.ser⟩ : Acc)), R]) Tryd.mixed (by kernel_rfl) rfl ?_
                have hl12 : (l.set p.frm.toNat (⟨(x6.n - p.n), x6.ser⟩ : Acc)).length = l.length := by simp
                refine Gw.val rfl rfl rfl rfl rfl (fun us => val_move rfl rfl) ?_
                refine Gw.val rfl rfl rfl rfl rfl (fun us => val_nilCheck rfl rfl) ?_
                refine Gw.val rfl rfl rfl rfl rfl (fun us => Val.cast (val_fieldAddr rfl Tryd.underlying43 rfl Tryd.ty2 rfl rfl) (v' := ptr (sB lv) (sO lv + p.to.toNat * 2)) rfl) ?_
                obtain ⟨x13, hx13⟩ := get_of_lt (xs := l.set p.frm.toNat (⟨(x6.n - p.n), x6.ser⟩ : Acc)) (k := p.to.toNat) (by omega)
                refine Gw.val0 rfl rfl rfl (by kernel_rfl) rfl rfl (val_load rfl Tryd.ty2 rfl rfl (cell_own (i := 0) (k := 2) rfl hx13 rfl)) ?_
                have hB14 := bd_set (B' := 2199023255552) (l := l) (i := p.frm.toNat) (r := (⟨(x6.n - p.n), x6.ser⟩ : Acc)) hB0 (by omega) (by dsimp only; omega)
                have hbx13 := hB14 _ _ hx13
                refine Gw.val rfl rfl rfl rfl rfl (fun us => Val.cast (val_fieldAddr rfl Tryd.underlying82 rfl Tryd.ty2 rfl rfl) (v' := ptr b2 3) rfl) ?_
                refine Gw.val0 rfl rfl rfl (by kernel_rfl) rfl rfl (val_load rfl Tryd.ty2 rfl rfl (cell_rec (k := 0) rfl rfl)) ?_
                refine Gw.val rfl rfl rfl rfl rfl (fun us => val_add rfl rfl rfl (r := (x13.n + p.n)) (w64 rfl (by omega))) ?_
                refine Gw.val rfl rfl rfl rfl rfl (fun us => val_nilCheck rfl rfl) ?_
                refine Gw.val rfl rfl rfl rfl rfl (fun us => Val.cast (val_fieldAddr rfl Tryd.underlying43 rfl Tryd.ty2 rfl rfl) (v' := ptr (sB lv) (sO lv + p.to.toNat * 2)) rfl) ?_
                refine Gw.done ?_
                refine Gx.norm (l' := [Hp.rec_ b2 [.int .i64 p.frm, .int .i64 p.to, .int .i64 p.ser, .int .i64 p.n], Hp.rec_ b1 [lv], Hp.own FA 2 lv (l.set p.frm.toNat (⟨(x6.n - p.n), x6.ser⟩ : Acc)), R]) rfl ?_
                refine Gx.eff0 rfl rfl (eff_storeEl (i := 0) (e' := (⟨(x13.n + p.n), x13.ser⟩ : Acc)) rfl Tryd.ty2 rfl rfl rfl rfl (k := 2) rfl FA_len hx13 (by decide) (rfl) (l' := [Hp.rec_ b2 [.int .i64 p.frm, .int .i64 p.to, .int .i64 p.ser, .int .i64 p.n], Hp.rec_ b1 [lv], Hp.own FA 2 lv ((l.set p.frm.toNat (⟨(x6.n - p.n), x6.ser⟩ : Acc)).set p.to.toNat (⟨(x13.n + p.n), x13.ser⟩ : Acc)), R]) rfl) ?_
                rintro _ _ rfl
                refine Gx.done ?_
                refine Gx.thenN ?_
                refine Gx.seq ?_
                refine Gx.region ?_
                have hl15 : ((l.set p.frm.toNat (⟨(x6.n - p.n), x6.ser⟩ : Acc)).set p.to.toNat (⟨(x13.n + p.n), x13.ser⟩ : Acc)).length = l.length := by simp
                refine Gx.val rfl rfl rfl (val_move rfl rfl) ?_
                refine Gx.val rfl rfl rfl (val_nilCheck rfl rfl) ?_
                refine Gx.val rfl rfl rfl (Val.cast (val_fieldAddr rfl Tryd.underlying43 rfl Tryd.ty3 rfl rfl) (v' := ptr (sB lv) (sO lv + p.frm.toNat * 2 + 1)) rfl) ?_
                obtain ⟨x16, hx16⟩ := get_of_lt (xs := (l.set p.frm.toNat (⟨(x6.n - p.n), x6.ser⟩ : Acc)).set p.to.toNat (⟨(x13.n + p.n), x13.ser⟩ : Acc)) (k := p.frm.toNat) (by omega)
                refine Gx.val rfl rfl rfl (val_load rfl Tryd.ty3 rfl rfl (cell_own (i := 1) (k := 2) rfl hx16 rfl)) ?_
                have hB17 := bd_set (B' := 4398046511104) (l := (l.set p.frm.toNat (⟨(x6.n - p.n), x6.ser⟩ : Acc))) (i := p.to.toNat) (r := (⟨(x13.n + p.n), x13.ser⟩ : Acc)) hB14 (by omega) (by dsimp only; omega)
                have hbx16 := hB17 _ _ hx16
                refine Gx.val rfl rfl rfl (val_add rfl rfl rfl (r := ((x16.ser + 1 : Nat) : Int)) (w64 (by omega) (by omega))) ?_
                refine Gx.val rfl rfl rfl (val_nilCheck rfl rfl) ?_
                refine Gx.val rfl rfl rfl (Val.cast (val_fieldAddr rfl Tryd.underlying43 rfl Tryd.ty3 rfl rfl) (v' := ptr (sB lv) (sO lv + p.frm.toNat * 2 + 1)) rfl) ?_
                refine Gx.eff0 rfl rfl (eff_storeEl (i := 1) (e' := (⟨x16.n, x16.ser + 1⟩ : Acc)) rfl Tryd.ty3 rfl rfl rfl rfl (k := 2) rfl FA_len hx16 (by decide) (rfl) (l' := [Hp.rec_ b2 [.int .i64 p.frm, .int .i64 p.to, .int .i64 p.ser, .int .i64 p.n], Hp.rec_ b1 [lv], Hp.own FA 2 lv (((l.set p.frm.toNat (⟨(x6.n - p.n), x6.ser⟩ : Acc)).set p.to.toNat (⟨(x13.n + p.n), x13.ser⟩ : Acc)).set p.frm.toNat (⟨x16.n, x16.ser + 1⟩ : Acc)), R]) rfl) ?_
                rintro _ _ rfl
                refine Gx.done ?_
                refine Gx.thenN ?_
                refine Gx.seq ?_
                refine Gx.region ?_
                refine Gx.val rfl rfl rfl (val_assign rfl rfl) ?_
                refine Gx.done ?_
                refine Gx.thenN ?_
                refine Gx.ret ?_
                refine Gx.drop 1 rfl ?_
                refine Gx.drop 0 rfl ?_
                have ha := accI_of hx6
                have hb := accI_of hx7
                have hpc : payC l p = 0 := by unfold payC; rw [if_neg hno, if_neg (by rw [ha]; omega), if_neg (by rw [ha]; omega), if_neg (by first | (rintro ⟨_, q⟩; rw [hb] at q; omega) | (rintro ⟨q, _⟩; omega))]
                refine Gx.ret1 Tryd.results29 rfl ?_
                refine ⟨by rw [hpc]; rfl, ?_⟩
                rw [show payL l p = ((l.set p.frm.toNat (⟨(x6.n - p.n), x6.ser⟩ : Acc)).set p.to.toNat (⟨(x13.n + p.n), x13.ser⟩ : Acc)).set p.frm.toNat (⟨x16.n, x16.ser + 1⟩ : Acc) from by unfold payL; rw [if_pos hpc]; unfold madeL; dsimp only; rw [ha, accI_of hx13, accI_of hx16]]
                exact sep1' _ _
            · refine Gq.skipg rfl rfl rfl rfl rfl rfl ?_
              refine Gq.skipg rfl rfl rfl rfl rfl rfl ?_
              refine Gq.skipg rfl rfl rfl rfl rfl rfl ?_
              refine Gq.skipg rfl rfl rfl rfl rfl rfl ?_
              refine Gq.skipg rfl rfl rfl rfl rfl rfl ?_
              refine Gq.skipg rfl rfl rfl rfl rfl rfl ?_
              refine Gq.skipg rfl rfl rfl rfl rfl rfl ?_
              refine Gq.skipg rfl rfl rfl rfl rfl rfl ?_
              refine Gq.val rfl rfl rfl (val_pickF rfl rfl rfl) ?_
              refine Gq.val rfl rfl rfl (val_assign rfl rfl) ?_
              refine Gq.done ?_
              refine Gx.thenN ?_
              refine Gx.f rfl ?_
              refine Gx.skip ?_
              refine Gx.blkN ?_
              refine Gx.thenN ?_
              refine Gx.seq ?_
              refine Gx.regionO (fun j => false) 9 [0, 1, 2, 3, 4, 5, 6, 7, 8] (fun _ => [Hp.rec_ b2 [.int .i64 p.frm, .int .i64 p.to, .int .i64 p.ser, .int .i64 p.n], Hp.rec_ b1 [lv], Hp.own FA 2 lv l, R]) Tryd.mixed (by kernel_rfl) rfl ?_
              refine Gw.val rfl rfl rfl rfl rfl (fun us => val_move rfl rfl) ?_
              refine Gw.val rfl rfl rfl rfl rfl (fun us => val_nilCheck rfl rfl) ?_
              refine Gw.val rfl rfl rfl rfl rfl (fun us => Val.cast (val_fieldAddr rfl Tryd.underlying43 rfl Tryd.ty2 rfl rfl) (v' := ptr (sB lv) (sO lv + p.frm.toNat * 2)) rfl) ?_
              refine Gw.val0 rfl rfl rfl (by kernel_rfl) rfl rfl (val_load rfl Tryd.ty2 rfl rfl (cell_own (i := 0) (k := 2) rfl hx6 rfl)) ?_
              have hbx6 := hbd _ _ hx6
              refine Gw.val rfl rfl rfl rfl rfl (fun us => Val.cast (val_fieldAddr rfl Tryd.underlying82 rfl Tryd.ty2 rfl rfl) (v' := ptr b2 3) rfl) ?_
              refine Gw.val0 rfl rfl rfl (by kernel_rfl) rfl rfl (val_load rfl Tryd.ty2 rfl rfl (cell_rec (k := 0) rfl rfl)) ?_
              refine Gw.val rfl rfl rfl rfl rfl (fun us => val_sub rfl rfl rfl (r := (x6.n - p.n)) (w64 rfl (by omega))) ?_
              refine Gw.val rfl rfl rfl rfl rfl (fun us => val_nilCheck rfl rfl) ?_
              refine Gw.val rfl rfl rfl rfl rfl (fun us => Val.cast (val_fieldAddr rfl Tryd.underlying43 rfl Tryd.ty2 rfl rfl) (v' := ptr (sB lv) (sO lv + p.frm.toNat * 2)) rfl) ?_
              refine Gw.done ?_
              refine Gx.norm (l' := [Hp.rec_ b2 [.int .i64 p.frm, .int .i64 p.to, .int .i64 p.ser, .int .i64 p.n], Hp.rec_ b1 [lv], Hp.own FA 2 lv l, R]) rfl ?_
              refine Gx.eff0 rfl rfl (eff_storeEl (i := 0) (e' := (⟨(x6.n - p.n), x6.ser⟩ : Acc)) rfl Tryd.ty2 rfl rfl rfl rfl (k := 2) rfl FA_len hx6 (by decide) (rfl) (l' := [Hp.rec_ b2 [.int .i64 p.frm, .int .i64 p.to, .int .i64 p.ser, .int .i64 p.n], Hp.rec_ b1 [lv], Hp.own FA 2 lv (l.set p.frm.toNat (⟨(x6.n - p.n), x6.ser⟩ : Acc)), R]) rfl) ?_
              rintro _ _ rfl
              refine Gx.done ?_
              refine Gx.thenN ?_
              refine Gx.seq ?_
              refine Gx.regionO (fun j => false) 9 [0, 1, 2, 3, 4, 5, 6, 7, 8] (fun _ => [Hp.rec_ b2 [.int .i64 p.frm, .int .i64 p.to, .int .i64 p.ser, .int .i64 p.n], Hp.rec_ b1 [lv], Hp.own FA 2 lv (l.set p.frm.toNat (⟨(x6.n - p.n), x6.ser⟩ : Acc)), R]) Tryd.mixed (by kernel_rfl) rfl ?_
              have hl18 : (l.set p.frm.toNat (⟨(x6.n - p.n), x6.ser⟩ : Acc)).length = l.length := by simp
              refine Gw.val rfl rfl rfl rfl rfl (fun us => val_move rfl rfl) ?_
              refine Gw.val rfl rfl rfl rfl rfl (fun us => val_nilCheck rfl rfl) ?_
              refine Gw.val rfl rfl rfl rfl rfl (fun us => Val.cast (val_fieldAddr rfl Tryd.underlying43 rfl Tryd.ty2 rfl rfl) (v' := ptr (sB lv) (sO lv + p.to.toNat * 2)) rfl) ?_
              obtain ⟨x19, hx19⟩ := get_of_lt (xs := l.set p.frm.toNat (⟨(x6.n - p.n), x6.ser⟩ : Acc)) (k := p.to.toNat) (by omega)
              refine Gw.val0 rfl rfl rfl (by kernel_rfl) rfl rfl (val_load rfl Tryd.ty2 rfl rfl (cell_own (i := 0) (k := 2) rfl hx19 rfl)) ?_
              have hB20 := bd_set (B' := 2199023255552) (l := l) (i := p.frm.toNat) (r := (⟨(x6.n - p.n), x6.ser⟩ : Acc)) hB0 (by omega) (by dsimp only; omega)
              have hbx19 := hB20 _ _ hx19
              refine Gw.val rfl rfl rfl rfl rfl (fun us => Val.cast (val_fieldAddr rfl Tryd.underlying82 rfl Tryd.ty2 rfl rfl) (v' := ptr b2 3) rfl) ?_
              refine Gw.val0 rfl rfl rfl (by kernel_rfl) rfl rfl (val_load rfl Tryd.ty2 rfl rfl (cell_rec (k := 0) rfl rfl)) ?_
              refine Gw.val rfl rfl rfl rfl rfl (fun us => val_add rfl rfl rfl (r := (x19.n + p.n)) (w64 rfl (by omega))) ?_
              refine Gw.val rfl rfl rfl rfl rfl (fun us => val_nilCheck rfl rfl) ?_
              refine Gw.val rfl rfl rfl rfl rfl (fun us => Val.cast (val_fieldAddr rfl Tryd.underlying43 rfl Tryd.ty2 rfl rfl) (v' := ptr (sB lv) (sO lv + p.to.toNat * 2)) rfl) ?_
              refine Gw.done ?_
              refine Gx.norm (l' := [Hp.rec_ b2 [.int .i64 p.frm, .int .i64 p.to, .int .i64 p.ser, .int .i64 p.n], Hp.rec_ b1 [lv], Hp.own FA 2 lv (l.set p.frm.toNat (⟨(x6.n - p.n), x6.ser⟩ : Acc)), R]) rfl ?_
              refine Gx.eff0 rfl rfl (eff_storeEl (i := 0) (e' := (⟨(x19.n + p.n), x19.ser⟩ : Acc)) rfl Tryd.ty2 rfl rfl rfl rfl (k := 2) rfl FA_len hx19 (by decide) (rfl) (l' := [Hp.rec_ b2 [.int .i64 p.frm, .int .i64 p.to, .int .i64 p.ser, .int .i64 p.n], Hp.rec_ b1 [lv], Hp.own FA 2 lv ((l.set p.frm.toNat (⟨(x6.n - p.n), x6.ser⟩ : Acc)).set p.to.toNat (⟨(x19.n + p.n), x19.ser⟩ : Acc)), R]) rfl) ?_
              rintro _ _ rfl
              refine Gx.done ?_
              refine Gx.thenN ?_
              refine Gx.seq ?_
              refine Gx.region ?_
              have hl21 : ((l.set p.frm.toNat (⟨(x6.n - p.n), x6.ser⟩ : Acc)).set p.to.toNat (⟨(x19.n + p.n), x19.ser⟩ : Acc)).length = l.length := by simp
              refine Gx.val rfl rfl rfl (val_move rfl rfl) ?_
              refine Gx.val rfl rfl rfl (val_nilCheck rfl rfl) ?_
              refine Gx.val rfl rfl rfl (Val.cast (val_fieldAddr rfl Tryd.underlying43 rfl Tryd.ty3 rfl rfl) (v' := ptr (sB lv) (sO lv + p.frm.toNat * 2 + 1)) rfl) ?_
              obtain ⟨x22, hx22⟩ := get_of_lt (xs := (l.set p.frm.toNat (⟨(x6.n - p.n), x6.ser⟩ : Acc)).set p.to.toNat (⟨(x19.n + p.n), x19.ser⟩ : Acc)) (k := p.frm.toNat) (by omega)
              refine Gx.val rfl rfl rfl (val_load rfl Tryd.ty3 rfl rfl (cell_own (i := 1) (k := 2) rfl hx22 rfl)) ?_
              have hB23 := bd_set (B' := 4398046511104) (l := (l.set p.frm.toNat (⟨(x6.n - p.n), x6.ser⟩ : Acc))) (i := p.to.toNat) (r := (⟨(x19.n + p.n), x19.ser⟩ : Acc)) hB20 (by omega) (by dsimp only; omega)
              have hbx22 := hB23 _ _ hx22
              refine Gx.val rfl rfl rfl (val_add rfl rfl rfl (r := ((x22.ser + 1 : Nat) : Int)) (w64 (by omega) (by omega))) ?_
              refine Gx.val rfl rfl rfl (val_nilCheck rfl rfl) ?_
              refine Gx.val rfl rfl rfl (Val.cast (val_fieldAddr rfl Tryd.underlying43 rfl Tryd.ty3 rfl rfl) (v' := ptr (sB lv) (sO lv + p.frm.toNat * 2 + 1)) rfl) ?_
              refine Gx.eff0 rfl rfl (eff_storeEl (i := 1) (e' := (⟨x22.n, x22.ser + 1⟩ : Acc)) rfl Tryd.ty3 rfl rfl rfl rfl (k := 2) rfl FA_len hx22 (by decide) (rfl) (l' := [Hp.rec_ b2 [.int .i64 p.frm, .int .i64 p.to, .int .i64 p.ser, .int .i64 p.n], Hp.rec_ b1 [lv], Hp.own FA 2 lv (((l.set p.frm.toNat (⟨(x6.n - p.n), x6.ser⟩ : Acc)).set p.to.toNat (⟨(x19.n + p.n), x19.ser⟩ : Acc)).set p.frm.toNat (⟨x22.n, x22.ser + 1⟩ : Acc)), R]) rfl) ?_
              rintro _ _ rfl
              refine Gx.done ?_
              refine Gx.thenN ?_
              refine Gx.seq ?_
              refine Gx.region ?_
              refine Gx.val rfl rfl rfl (val_assign rfl rfl) ?_
              refine Gx.done ?_
              refine Gx.thenN ?_
              refine Gx.ret ?_
              refine Gx.drop 1 rfl ?_
              refine Gx.drop 0 rfl ?_
              have ha := accI_of hx6
              have hb := accI_of hx7
              have hpc : payC l p = 0 := by unfold payC; rw [if_neg hno, if_neg (by rw [ha]; omega), if_neg (by rw [ha]; omega), if_neg (by first | (rintro ⟨_, q⟩; rw [hb] at q; omega) | (rintro ⟨q, _⟩; omega))]
              refine Gx.ret1 Tryd.results29 rfl ?_
              refine ⟨by rw [hpc]; rfl, ?_⟩
              rw [show payL l p = ((l.set p.frm.toNat (⟨(x6.n - p.n), x6.ser⟩ : Acc)).set p.to.toNat (⟨(x19.n + p.n), x19.ser⟩ : Acc)).set p.frm.toNat (⟨x22.n, x22.ser + 1⟩ : Acc) from by unfold payL; rw [if_pos hpc]; unfold madeL; dsimp only; rw [ha, accI_of hx19, accI_of hx22]]
              exact sep1' _ _

end Go.Proofs.YtfeeociajllbhaaDoor.Lg
