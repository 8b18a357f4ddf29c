/- A step. The walks. No condition. -/
import Derived.Test.YtanipkddfngnnaaA2
namespace Go.Proofs.Ytanipkddfngnnaa
open Go.RowKit
set_option linter.unusedVariables false
set_option linter.unusedSimpArgs false
set_option maxRecDepth 100000

theorem own_formM {W w : World} {α : Type} {f : α → List Value} {sz : Nat} {v : Value} {xs : List α} {R : Hp} (H : Sat W w (Hp.own f sz v xs * R)) : ∃ a c, v = .slice a xs.length c := by
  obtain ⟨a, c, e, _⟩ := H.ows.form; exact ⟨a, c, e⟩
theorem isN_yes {n : Nat} {x : Int} (h : isN n x = true) : ∃ i : Nat, x = (i : Int) ∧ i < n := by
  unfold isN at h
  have := of_decide_eq_true h
  exact ⟨x.toNat, by omega, by omega⟩
theorem is_any {W : World} {b S : Nat} {a : Option Addr} {n c : Nat} (k : Int) (hb : b < W.heap.size) (hc : W.cell? ⟨b, 0, none⟩ = some (ptr S 0)) (hS : S < W.heap.size) (hcS : W.cell? ⟨S, 0, none⟩ = some (.slice a n c)) :
    Calls Try.prog 15 #[.int .i64 k, ptr b 0] W fun e w' => e = .returned (.bool (isN n k)) ∧ Below W.heap.size W w' := by
  refine calls_pure (Gx.enter (l := []) Try.func15 rfl Try.ntmps15 rfl (Sat.start W) ?_)
  refine Gx.know (m' := [(0, .int .i64 k), (1, ptr b 0)]) (.cons rfl (.cons rfl .nil)) ?_
  refine Gx.seq ?_
  refine Gx.region ?_
  refine Gx.val rfl rfl rfl (val_assign rfl rfl) ?_
  refine Gx.done ?_
  refine Gx.thenN ?_
  refine Gx.seq ?_
  refine Gx.region ?_
  refine Gx.val rfl rfl rfl (val_move rfl rfl) ?_
  refine Gx.val rfl rfl rfl (val_geq rfl rfl rfl) ?_
  refine Gx.val rfl rfl rfl (val_move rfl rfl) ?_
  refine Gx.cases (t := 6) rfl (fun h1 => ?_) (fun h1 => ?_)
  · refine Gx.valg rfl rfl rfl rfl rfl (val_move rfl rfl) ?_
    refine Gx.valg rfl rfl rfl rfl rfl (val_load rfl Try.ty38 rfl rfl (cell_old hb hc)) ?_
    refine Gx.valg rfl rfl rfl rfl rfl (val_nilCheck rfl rfl) ?_
    refine Gx.valg rfl rfl rfl rfl rfl (Val.cast (val_fieldAddr rfl Try.underlying44 rfl Try.ty41 rfl rfl) (v' := ptr S 0) rfl) ?_
    refine Gx.valg rfl rfl rfl rfl rfl (val_load rfl Try.ty41 rfl rfl (cell_old hS hcS)) ?_
    refine Gx.valg rfl rfl rfl rfl rfl (val_len rfl Try.underlying41 rfl len_lit) ?_
    refine Gx.valg rfl rfl rfl rfl rfl (val_lss rfl rfl rfl) ?_
    refine Gx.val rfl rfl rfl (val_pickT rfl rfl rfl) ?_
    refine Gx.val rfl rfl rfl (val_assign rfl rfl) ?_
    refine Gx.done ?_
    refine Gx.thenN ?_
    refine Gx.ret ?_
    refine Gx.ret1 Try.results15 rfl ?_
    exact congrArg Value.bool (by unfold isN; simp; try omega)
  · refine Gx.skipg rfl rfl rfl rfl rfl rfl ?_
    refine Gx.skipg rfl rfl rfl rfl rfl rfl ?_
    refine Gx.skipg rfl rfl rfl rfl rfl rfl ?_
    refine Gx.skipg rfl rfl rfl rfl rfl rfl ?_
    refine Gx.skipg rfl rfl rfl rfl rfl rfl ?_
    refine Gx.skipg rfl rfl rfl rfl rfl rfl ?_
    refine Gx.skipg rfl rfl rfl rfl rfl rfl ?_
    refine Gx.val rfl rfl rfl (val_pickF rfl rfl rfl) ?_
    refine Gx.val rfl rfl rfl (val_assign rfl rfl) ?_
    refine Gx.done ?_
    refine Gx.thenN ?_
    refine Gx.ret ?_
    refine Gx.ret1 Try.results15 rfl ?_
    exact congrArg Value.bool (by unfold isN; simp; try omega)

theorem step_kind {W w : World} {S n : Nat} {s : SS} {R : Hp} {kd x o nn : Int} (hk : kd < 1 ∨ 3 < kd) (H : Sat W w (worldH S n s * R)) :
    Calls Try.prog 12 #[ptr S 0, .agg #[.int .i64 kd, .int .i64 x, .int .i64 o, .int .i64 nn]] w (Ret W fun v l => v = .int .i64 4 ∧ sep l = worldH S n s * R) := by
  obtain ⟨pv, mb, ks, rs, hok, H⟩ := worldH.open_ H
  obtain ⟨pa, pc, hpv⟩ := own_formM (H.at_ (k := 1) rfl)
  refine Gx.enter (l := [Hp.rec_ S [pv, .map (some mb)], Hp.own FP 2 pv s.ps, Hp.map Try.prog 47 pairL vB mb ks, Hp.big rowH rs, R]) Try.func12 rfl Try.ntmps12 rfl (H) ?_
  refine Gx.know (m' := [(0, ptr S 0), (1, .agg #[.int .i64 kd, .int .i64 x, .int .i64 o, .int .i64 nn])]) (.cons rfl (.cons rfl .nil)) ?_
  refine Gx.seq ?_
  refine Gx.region ?_
  refine Gx.eff rfl rfl rfl (eff_box rfl rfl (vs := [ptr S 0]) rfl) ?_
  rintro _ _ ⟨b1, rfl, rfl⟩
  refine Gx.eff rfl rfl rfl (eff_box rfl rfl (vs := [.int .i64 kd, .int .i64 x, .int .i64 o, .int .i64 nn]) rfl) ?_
  rintro _ _ ⟨b2, rfl, rfl⟩
  refine Gx.val rfl rfl rfl (val_assign rfl rfl) ?_
  refine Gx.done ?_
  refine Gx.thenN ?_
  refine Gx.seq ?_
  refine Gx.region ?_
  refine Gx.val rfl rfl rfl (Val.cast (val_makeFunc (us := []) (vs := [ptr b1 0]) rfl rfl rfl) (v' := .func (.func 15) #[] #[ptr b1 0]) rfl) ?_
  refine Gx.val rfl rfl rfl (val_assign rfl rfl) ?_
  refine Gx.done ?_
  refine Gx.thenN ?_
  refine Gx.seq ?_
  refine Gx.block ?_
  refine Gx.seq ?_
  refine Gx.region ?_
  refine Gx.val rfl rfl rfl (Val.cast (val_fieldAddr rfl Try.underlying33 rfl Try.ty3 rfl rfl) (v' := ptr b2 0) rfl) ?_
  refine Gx.val rfl rfl rfl (val_load rfl Try.ty3 rfl rfl (cell_rec (k := 0) rfl rfl)) ?_
  refine Gx.val rfl rfl rfl (val_lss rfl rfl rfl) ?_
  refine Gx.val rfl rfl rfl (val_move rfl rfl) ?_
  refine Gx.cases (t := 13) rfl (fun h3 => ?_) (fun h3 => ?_)
  · refine Gx.skipg rfl rfl rfl rfl rfl rfl ?_
    refine Gx.skipg rfl rfl rfl rfl rfl rfl ?_
    refine Gx.skipg rfl rfl rfl rfl rfl rfl ?_
    refine Gx.val rfl rfl rfl (val_pickT rfl rfl rfl) ?_
    refine Gx.val rfl rfl rfl (val_assign rfl rfl) ?_
    refine Gx.done ?_
    refine Gx.thenN ?_
    refine Gx.t rfl ?_
    refine Gx.seq ?_
    refine Gx.region ?_
    refine Gx.val rfl rfl rfl (val_assign rfl rfl) ?_
    refine Gx.done ?_
    refine Gx.thenN ?_
    refine Gx.ret ?_
    refine Gx.blkR ?_
    refine Gx.thenR ?_
    refine Gx.drop 1 rfl ?_
    refine Gx.drop 0 rfl ?_
    refine Gx.front 4 rfl ?_
    refine Gx.front 4 rfl ?_
    refine Gx.front 4 rfl ?_
    refine Gx.front 4 rfl ?_
    refine Gx.front 4 rfl ?_
    refine Gx.sat (l' := [worldH S n s, R]) (fun w H => worldH.shut (s := s) (hok) H) ?_
    refine Gx.ret1 Try.results12 rfl ?_
    exact ⟨rfl, sep1 _ _⟩
  · refine Gx.valg rfl rfl rfl rfl rfl (Val.cast (val_fieldAddr rfl Try.underlying33 rfl Try.ty3 rfl rfl) (v' := ptr b2 0) rfl) ?_
    refine Gx.valg rfl rfl rfl rfl rfl (val_load rfl Try.ty3 rfl rfl (cell_rec (k := 0) rfl rfl)) ?_
    refine Gx.valg rfl rfl rfl rfl rfl (val_gtr rfl rfl rfl) ?_
    refine Gx.val rfl rfl rfl (val_pickF rfl rfl rfl) ?_
    refine Gx.val rfl rfl rfl (val_assign rfl rfl) ?_
    refine Gx.done ?_
    refine Gx.thenN ?_
    refine Gx.dec rfl (fun h4 => ?_) (fun h4 => ?_)
    · refine Gx.seq ?_
      refine Gx.region ?_
      refine Gx.val rfl rfl rfl (val_assign rfl rfl) ?_
      refine Gx.done ?_
      refine Gx.thenN ?_
      refine Gx.ret ?_
      refine Gx.blkR ?_
      refine Gx.thenR ?_
      refine Gx.drop 1 rfl ?_
      refine Gx.drop 0 rfl ?_
      refine Gx.front 4 rfl ?_
      refine Gx.front 4 rfl ?_
      refine Gx.front 4 rfl ?_
      refine Gx.front 4 rfl ?_
      refine Gx.front 4 rfl ?_
      refine Gx.sat (l' := [worldH S n s, R]) (fun w H => worldH.shut (s := s) (hok) H) ?_
      refine Gx.ret1 Try.results12 rfl ?_
      exact ⟨rfl, sep1 _ _⟩
    · exfalso; omega

theorem step_who {W w : World} {S n : Nat} {s : SS} {R : Hp} {kd x o nn : Int} (hk : ¬ (kd < 1 ∨ 3 < kd)) (hw : isN s.ps.length x = false) (H : Sat W w (worldH S n s * R)) :
    Calls Try.prog 12 #[ptr S 0, .agg #[.int .i64 kd, .int .i64 x, .int .i64 o, .int .i64 nn]] w (Ret W fun v l => v = .int .i64 2 ∧ sep l = worldH S n s * R) := by
  obtain ⟨pv, mb, ks, rs, hok, H⟩ := worldH.open_ H
  obtain ⟨pa, pc, hpv⟩ := own_formM (H.at_ (k := 1) rfl)
  refine Gx.enter (l := [Hp.rec_ S [pv, .map (some mb)], Hp.own FP 2 pv s.ps, Hp.map Try.prog 47 pairL vB mb ks, Hp.big rowH rs, R]) Try.func12 rfl Try.ntmps12 rfl (H) ?_
  refine Gx.know (m' := [(0, ptr S 0), (1, .agg #[.int .i64 kd, .int .i64 x, .int .i64 o, .int .i64 nn])]) (.cons rfl (.cons rfl .nil)) ?_
  refine Gx.seq ?_
  refine Gx.region ?_
  refine Gx.eff rfl rfl rfl (eff_box rfl rfl (vs := [ptr S 0]) rfl) ?_
  rintro _ _ ⟨b1, rfl, rfl⟩
  refine Gx.eff rfl rfl rfl (eff_box rfl rfl (vs := [.int .i64 kd, .int .i64 x, .int .i64 o, .int .i64 nn]) rfl) ?_
  rintro _ _ ⟨b2, rfl, rfl⟩
  refine Gx.val rfl rfl rfl (val_assign rfl rfl) ?_
  refine Gx.done ?_
  refine Gx.thenN ?_
  refine Gx.seq ?_
  refine Gx.region ?_
  refine Gx.val rfl rfl rfl (Val.cast (val_makeFunc (us := []) (vs := [ptr b1 0]) rfl rfl rfl) (v' := .func (.func 15) #[] #[ptr b1 0]) rfl) ?_
  refine Gx.val rfl rfl rfl (val_assign rfl rfl) ?_
  refine Gx.done ?_
  refine Gx.thenN ?_
  refine Gx.seq ?_
  refine Gx.block ?_
  refine Gx.seq ?_
  refine Gx.region ?_
  refine Gx.val rfl rfl rfl (Val.cast (val_fieldAddr rfl Try.underlying33 rfl Try.ty3 rfl rfl) (v' := ptr b2 0) rfl) ?_
  refine Gx.val rfl rfl rfl (val_load rfl Try.ty3 rfl rfl (cell_rec (k := 0) rfl rfl)) ?_
  refine Gx.val rfl rfl rfl (val_lss rfl rfl rfl) ?_
  refine Gx.val rfl rfl rfl (val_move rfl rfl) ?_
  refine Gx.slot (t := 13) (v := .bool false) (look_decF rfl (by omega)) ?_
  refine Gx.valg rfl rfl rfl rfl rfl (Val.cast (val_fieldAddr rfl Try.underlying33 rfl Try.ty3 rfl rfl) (v' := ptr b2 0) rfl) ?_
  refine Gx.valg rfl rfl rfl rfl rfl (val_load rfl Try.ty3 rfl rfl (cell_rec (k := 0) rfl rfl)) ?_
  refine Gx.valg rfl rfl rfl rfl rfl (val_gtr rfl rfl rfl) ?_
  refine Gx.val rfl rfl rfl (val_pickF rfl rfl rfl) ?_
  refine Gx.val rfl rfl rfl (val_assign rfl rfl) ?_
  refine Gx.done ?_
  refine Gx.thenN ?_
  refine Gx.decF rfl (by omega) ?_
  refine Gx.seq ?_
  refine Gx.region ?_
  refine Gx.val rfl rfl rfl (val_move rfl rfl) ?_
  refine Gx.val rfl rfl rfl (Val.cast (val_fieldAddr rfl Try.underlying33 rfl Try.ty3 rfl rfl) (v' := ptr b2 1) rfl) ?_
  refine Gx.val rfl rfl rfl (val_load rfl Try.ty3 rfl rfl (cell_rec (k := 0) rfl rfl)) ?_
  refine Gx.val rfl rfl rfl (val_callV (vs := [.int .i64 x]) (fs := []) (cs := [ptr b1 0]) rfl Try.fn15 rfl rfl (fun w H => is_any x (H.at_ (k := 1) rfl).rec_.1 ((H.at_ (k := 1) rfl).cell 0 rfl) (H.at_ (k := 2) rfl).rec_.1 (((H.at_ (k := 2) rfl).cell 0 rfl).trans (congrArg some hpv)))) ?_
  refine Gx.val rfl rfl rfl (val_not rfl rfl) ?_
  refine Gx.val rfl rfl rfl (val_assign rfl rfl) ?_
  refine Gx.done ?_
  refine Gx.thenN ?_
  refine Gx.boolT rfl (by simp [hw]) ?_
  refine Gx.seq ?_
  refine Gx.region ?_
  refine Gx.val rfl rfl rfl (val_assign rfl rfl) ?_
  refine Gx.done ?_
  refine Gx.thenN ?_
  refine Gx.ret ?_
  refine Gx.blkR ?_
  refine Gx.thenR ?_
  refine Gx.drop 1 rfl ?_
  refine Gx.drop 0 rfl ?_
  refine Gx.front 4 rfl ?_
  refine Gx.front 4 rfl ?_
  refine Gx.front 4 rfl ?_
  refine Gx.front 4 rfl ?_
  refine Gx.front 4 rfl ?_
  refine Gx.sat (l' := [worldH S n s, R]) (fun w H => worldH.shut (s := s) (hok) H) ?_
  refine Gx.ret1 Try.results12 rfl ?_
  exact ⟨rfl, sep1 _ _⟩

theorem step_held {W w : World} {S n : Nat} {s : SS} {R : Hp} {i : Nat} {p : Pr} (hp : s.ps[i]? = some p) (hn : s.ps.length ≤ 6) {o nn : Int} (hq : ∀ a, (s.w a).q.length ≤ 10000) (h1 : ¬ p.ow = -1) (H : Sat W w (worldH S n s * R)) :
    Calls Try.prog 12 #[ptr S 0, .agg #[.int .i64 3, .int .i64 ((i : Nat) : Int), .int .i64 o, .int .i64 nn]] w (Ret W fun v l => v = .int .i64 6 ∧ sep l = worldH S n s * R) := by
  obtain ⟨pv, mb, ks, rs, hok, H⟩ := worldH.open_ H
  obtain ⟨pa, pc, hpv⟩ := own_formM (H.at_ (k := 1) rfl)
  have hil := (List.getElem?_eq_some_iff.1 hp).1
  have hiN : isN s.ps.length ((i : Nat) : Int) = true := decide_eq_true (by omega)
  refine Gx.enter (l := [Hp.rec_ S [pv, .map (some mb)], Hp.own FP 2 pv s.ps, Hp.map Try.prog 47 pairL vB mb ks, Hp.big rowH rs, R]) Try.func12 rfl Try.ntmps12 rfl (H) ?_
  refine Gx.know (m' := [(0, ptr S 0), (1, .agg #[.int .i64 3, .int .i64 ((i : Nat) : Int), .int .i64 o, .int .i64 nn])]) (.cons rfl (.cons rfl .nil)) ?_
  refine Gx.seq ?_
  refine Gx.region ?_
  refine Gx.eff rfl rfl rfl (eff_box rfl rfl (vs := [ptr S 0]) rfl) ?_
  rintro _ _ ⟨b1, rfl, rfl⟩
  refine Gx.eff rfl rfl rfl (eff_box rfl rfl (vs := [.int .i64 3, .int .i64 ((i : Nat) : Int), .int .i64 o, .int .i64 nn]) rfl) ?_
  rintro _ _ ⟨b2, rfl, rfl⟩
  refine Gx.val rfl rfl rfl (val_assign rfl rfl) ?_
  refine Gx.done ?_
  refine Gx.thenN ?_
  refine Gx.seq ?_
  refine Gx.region ?_
  refine Gx.val rfl rfl rfl (Val.cast (val_makeFunc (us := []) (vs := [ptr b1 0]) rfl rfl rfl) (v' := .func (.func 15) #[] #[ptr b1 0]) rfl) ?_
  refine Gx.val rfl rfl rfl (val_assign rfl rfl) ?_
  refine Gx.done ?_
  refine Gx.thenN ?_
  refine Gx.seq ?_
  refine Gx.block ?_
  refine Gx.seq ?_
  refine Gx.region ?_
  refine Gx.val rfl rfl rfl (Val.cast (val_fieldAddr rfl Try.underlying33 rfl Try.ty3 rfl rfl) (v' := ptr b2 0) rfl) ?_
  refine Gx.val rfl rfl rfl (val_load rfl Try.ty3 rfl rfl (cell_rec (k := 0) rfl rfl)) ?_
  refine Gx.val rfl rfl rfl (Val.cast (val_lss rfl rfl rfl) (v' := .bool false) rfl) ?_
  refine Gx.val rfl rfl rfl (val_move rfl rfl) ?_
  refine Gx.valg rfl rfl rfl rfl rfl (Val.cast (val_fieldAddr rfl Try.underlying33 rfl Try.ty3 rfl rfl) (v' := ptr b2 0) rfl) ?_
  refine Gx.valg rfl rfl rfl rfl rfl (val_load rfl Try.ty3 rfl rfl (cell_rec (k := 0) rfl rfl)) ?_
  refine Gx.valg rfl rfl rfl rfl rfl (Val.cast (val_gtr rfl rfl rfl) (v' := .bool false) rfl) ?_
  refine Gx.val rfl rfl rfl (val_pickF rfl rfl rfl) ?_
  refine Gx.val rfl rfl rfl (val_assign rfl rfl) ?_
  refine Gx.done ?_
  refine Gx.thenN ?_
  refine Gx.f rfl ?_
  refine Gx.seq ?_
  refine Gx.region ?_
  refine Gx.val rfl rfl rfl (val_move rfl rfl) ?_
  refine Gx.val rfl rfl rfl (Val.cast (val_fieldAddr rfl Try.underlying33 rfl Try.ty3 rfl rfl) (v' := ptr b2 1) rfl) ?_
  refine Gx.val rfl rfl rfl (val_load rfl Try.ty3 rfl rfl (cell_rec (k := 0) rfl rfl)) ?_
  refine Gx.val rfl rfl rfl (val_callV (vs := [.int .i64 ((i : Nat) : Int)]) (fs := []) (cs := [ptr b1 0]) rfl Try.fn15 rfl rfl (fun w H => is_any ((i : Nat) : Int) (H.at_ (k := 1) rfl).rec_.1 ((H.at_ (k := 1) rfl).cell 0 rfl) (H.at_ (k := 2) rfl).rec_.1 (((H.at_ (k := 2) rfl).cell 0 rfl).trans (congrArg some hpv)))) ?_
  refine Gx.val rfl rfl rfl (val_not rfl rfl) ?_
  refine Gx.val rfl rfl rfl (val_assign rfl rfl) ?_
  refine Gx.done ?_
  refine Gx.thenN ?_
  refine Gx.boolF rfl (by rw [hiN]; rfl) ?_
  refine Gx.seq ?_
  refine Gx.regionQ Try.mixed (by kernel_rfl) ?_
  refine Gq.val rfl rfl rfl (Val.cast (val_fieldAddr rfl Try.underlying33 rfl Try.ty3 rfl rfl) (v' := ptr b2 0) rfl) ?_
  refine Gq.val rfl rfl rfl (val_load rfl Try.ty3 rfl rfl (cell_rec (k := 0) rfl rfl)) ?_
  refine Gq.val rfl rfl rfl (Val.cast (val_eql rfl rfl rfl) (v' := .bool true) rfl) ?_
  refine Gq.val rfl rfl rfl (val_move rfl rfl) ?_
  refine Gq.valg rfl rfl rfl rfl rfl (val_load rfl Try.ty38 rfl rfl (cell_rec (k := 1) rfl rfl)) ?_
  refine Gq.valg rfl rfl rfl rfl rfl (val_nilCheck rfl rfl) ?_
  refine Gq.valg rfl rfl rfl rfl rfl (Val.cast (val_fieldAddr rfl Try.underlying44 rfl Try.ty41 rfl rfl) (v' := ptr S 0) rfl) ?_
  refine Gq.valg rfl rfl rfl rfl rfl (val_load rfl Try.ty41 rfl rfl (cell_rec (k := 2) rfl rfl)) ?_
  refine Gq.valg rfl rfl rfl rfl rfl (Val.cast (val_fieldAddr rfl Try.underlying33 rfl Try.ty3 rfl rfl) (v' := ptr b2 1) rfl) ?_
  refine Gq.valg rfl rfl rfl rfl rfl (val_load rfl Try.ty3 rfl rfl (cell_rec (k := 0) rfl rfl)) ?_
  refine Gq.valg rfl rfl rfl rfl rfl (val_ixa rfl Try.underlying41 Try.ty46 rfl rfl (j := i) (rfl) (reach_own (k := 3) rfl hp)) ?_
  refine Gq.valg rfl rfl rfl rfl rfl (Val.cast (val_fieldAddr rfl Try.underlying46 rfl Try.ty3 rfl rfl) (v' := ptr (sB pv) (sO pv + i * 2 + 1)) rfl) ?_
  refine Gq.valg rfl rfl rfl rfl rfl (val_load rfl Try.ty3 rfl rfl (cell_own (i := 1) (k := 3) rfl hp rfl)) ?_
  refine Gq.valg rfl rfl rfl rfl rfl (val_neq rfl rfl rfl) ?_
  refine Gq.val rfl rfl rfl (val_pickT rfl rfl rfl) ?_
  refine Gq.val rfl rfl rfl (val_assign rfl rfl) ?_
  refine Gq.done ?_
  refine Gx.thenN ?_
  refine Gx.decT rfl (by omega) ?_
  refine Gx.seq ?_
  refine Gx.region ?_
  refine Gx.val rfl rfl rfl (val_assign rfl rfl) ?_
  refine Gx.done ?_
  refine Gx.thenN ?_
  refine Gx.ret ?_
  refine Gx.blkR ?_
  refine Gx.thenR ?_
  refine Gx.drop 1 rfl ?_
  refine Gx.drop 0 rfl ?_
  refine Gx.front 4 rfl ?_
  refine Gx.front 4 rfl ?_
  refine Gx.front 4 rfl ?_
  refine Gx.front 4 rfl ?_
  refine Gx.front 4 rfl ?_
  refine Gx.sat (l' := [worldH S n s, R]) (fun w H => worldH.shut (s := s) (hok) H) ?_
  refine Gx.ret1 Try.results12 rfl ?_
  exact ⟨rfl, sep1 _ _⟩

theorem step_begin {W w : World} {S n : Nat} {s : SS} {R : Hp} {i : Nat} {p : Pr} (hp : s.ps[i]? = some p) (hn : s.ps.length ≤ 6) {o nn : Int} (hq : ∀ a, (s.w a).q.length ≤ 10000) (h1 : p.ow = -1) (H : Sat W w (worldH S n s * R)) :
    Calls Try.prog 12 #[ptr S 0, .agg #[.int .i64 3, .int .i64 ((i : Nat) : Int), .int .i64 o, .int .i64 nn]] w (Ret W fun v l => v = .int .i64 0 ∧ sep l = worldH S n (noteS s i) * R) := by
  obtain ⟨pv, mb, ks, rs, hok, H⟩ := worldH.open_ H
  obtain ⟨pa, pc, hpv⟩ := own_formM (H.at_ (k := 1) rfl)
  have hil := (List.getElem?_eq_some_iff.1 hp).1
  have hiN : isN s.ps.length ((i : Nat) : Int) = true := decide_eq_true (by omega)
  refine Gx.enter (l := [Hp.rec_ S [pv, .map (some mb)], Hp.own FP 2 pv s.ps, Hp.map Try.prog 47 pairL vB mb ks, Hp.big rowH rs, R]) Try.func12 rfl Try.ntmps12 rfl (H) ?_
  refine Gx.know (m' := [(0, ptr S 0), (1, .agg #[.int .i64 3, .int .i64 ((i : Nat) : Int), .int .i64 o, .int .i64 nn])]) (.cons rfl (.cons rfl .nil)) ?_
  refine Gx.seq ?_
  refine Gx.region ?_
  refine Gx.eff rfl rfl rfl (eff_box rfl rfl (vs := [ptr S 0]) rfl) ?_
  rintro _ _ ⟨b1, rfl, rfl⟩
  refine Gx.eff rfl rfl rfl (eff_box rfl rfl (vs := [.int .i64 3, .int .i64 ((i : Nat) : Int), .int .i64 o, .int .i64 nn]) rfl) ?_
  rintro _ _ ⟨b2, rfl, rfl⟩
  refine Gx.val rfl rfl rfl (val_assign rfl rfl) ?_
  refine Gx.done ?_
  refine Gx.thenN ?_
  refine Gx.seq ?_
  refine Gx.region ?_
  refine Gx.val rfl rfl rfl (Val.cast (val_makeFunc (us := []) (vs := [ptr b1 0]) rfl rfl rfl) (v' := .func (.func 15) #[] #[ptr b1 0]) rfl) ?_
  refine Gx.val rfl rfl rfl (val_assign rfl rfl) ?_
  refine Gx.done ?_
  refine Gx.thenN ?_
  refine Gx.seq ?_
  refine Gx.block ?_
  refine Gx.seq ?_
  refine Gx.region ?_
  refine Gx.val rfl rfl rfl (Val.cast (val_fieldAddr rfl Try.underlying33 rfl Try.ty3 rfl rfl) (v' := ptr b2 0) rfl) ?_
  refine Gx.val rfl rfl rfl (val_load rfl Try.ty3 rfl rfl (cell_rec (k := 0) rfl rfl)) ?_
  refine Gx.val rfl rfl rfl (Val.cast (val_lss rfl rfl rfl) (v' := .bool false) rfl) ?_
  refine Gx.val rfl rfl rfl (val_move rfl rfl) ?_
  refine Gx.valg rfl rfl rfl rfl rfl (Val.cast (val_fieldAddr rfl Try.underlying33 rfl Try.ty3 rfl rfl) (v' := ptr b2 0) rfl) ?_
  refine Gx.valg rfl rfl rfl rfl rfl (val_load rfl Try.ty3 rfl rfl (cell_rec (k := 0) rfl rfl)) ?_
  refine Gx.valg rfl rfl rfl rfl rfl (Val.cast (val_gtr rfl rfl rfl) (v' := .bool false) rfl) ?_
  refine Gx.val rfl rfl rfl (val_pickF rfl rfl rfl) ?_
  refine Gx.val rfl rfl rfl (val_assign rfl rfl) ?_
  refine Gx.done ?_
  refine Gx.thenN ?_
  refine Gx.f rfl ?_
  refine Gx.seq ?_
  refine Gx.region ?_
  refine Gx.val rfl rfl rfl (val_move rfl rfl) ?_
  refine Gx.val rfl rfl rfl (Val.cast (val_fieldAddr rfl Try.underlying33 rfl Try.ty3 rfl rfl) (v' := ptr b2 1) rfl) ?_
  refine Gx.val rfl rfl rfl (val_load rfl Try.ty3 rfl rfl (cell_rec (k := 0) rfl rfl)) ?_
  refine Gx.val rfl rfl rfl (val_callV (vs := [.int .i64 ((i : Nat) : Int)]) (fs := []) (cs := [ptr b1 0]) rfl Try.fn15 rfl rfl (fun w H => is_any ((i : Nat) : Int) (H.at_ (k := 1) rfl).rec_.1 ((H.at_ (k := 1) rfl).cell 0 rfl) (H.at_ (k := 2) rfl).rec_.1 (((H.at_ (k := 2) rfl).cell 0 rfl).trans (congrArg some hpv)))) ?_
  refine Gx.val rfl rfl rfl (val_not rfl rfl) ?_
  refine Gx.val rfl rfl rfl (val_assign rfl rfl) ?_
  refine Gx.done ?_
  refine Gx.thenN ?_
  refine Gx.boolF rfl (by rw [hiN]; rfl) ?_
  refine Gx.seq ?_
  refine Gx.regionQ Try.mixed (by kernel_rfl) ?_
  refine Gq.val rfl rfl rfl (Val.cast (val_fieldAddr rfl Try.underlying33 rfl Try.ty3 rfl rfl) (v' := ptr b2 0) rfl) ?_
  refine Gq.val rfl rfl rfl (val_load rfl Try.ty3 rfl rfl (cell_rec (k := 0) rfl rfl)) ?_
  refine Gq.val rfl rfl rfl (Val.cast (val_eql rfl rfl rfl) (v' := .bool true) rfl) ?_
  refine Gq.val rfl rfl rfl (val_move rfl rfl) ?_
  refine Gq.valg rfl rfl rfl rfl rfl (val_load rfl Try.ty38 rfl rfl (cell_rec (k := 1) rfl rfl)) ?_
  refine Gq.valg rfl rfl rfl rfl rfl (val_nilCheck rfl rfl) ?_
  refine Gq.valg rfl rfl rfl rfl rfl (Val.cast (val_fieldAddr rfl Try.underlying44 rfl Try.ty41 rfl rfl) (v' := ptr S 0) rfl) ?_
  refine Gq.valg rfl rfl rfl rfl rfl (val_load rfl Try.ty41 rfl rfl (cell_rec (k := 2) rfl rfl)) ?_
  refine Gq.valg rfl rfl rfl rfl rfl (Val.cast (val_fieldAddr rfl Try.underlying33 rfl Try.ty3 rfl rfl) (v' := ptr b2 1) rfl) ?_
  refine Gq.valg rfl rfl rfl rfl rfl (val_load rfl Try.ty3 rfl rfl (cell_rec (k := 0) rfl rfl)) ?_
  refine Gq.valg rfl rfl rfl rfl rfl (val_ixa rfl Try.underlying41 Try.ty46 rfl rfl (j := i) (rfl) (reach_own (k := 3) rfl hp)) ?_
  refine Gq.valg rfl rfl rfl rfl rfl (Val.cast (val_fieldAddr rfl Try.underlying46 rfl Try.ty3 rfl rfl) (v' := ptr (sB pv) (sO pv + i * 2 + 1)) rfl) ?_
  refine Gq.valg rfl rfl rfl rfl rfl (val_load rfl Try.ty3 rfl rfl (cell_own (i := 1) (k := 3) rfl hp rfl)) ?_
  refine Gq.valg rfl rfl rfl rfl rfl (val_neq rfl rfl rfl) ?_
  refine Gq.val rfl rfl rfl (val_pickT rfl rfl rfl) ?_
  refine Gq.val rfl rfl rfl (val_assign rfl rfl) ?_
  refine Gq.done ?_
  refine Gx.thenN ?_
  refine Gx.decF rfl (by omega) ?_
  refine Gx.seq ?_
  refine Gx.region ?_
  refine Gx.val rfl rfl rfl (Val.cast (val_fieldAddr rfl Try.underlying33 rfl Try.ty3 rfl rfl) (v' := ptr b2 0) rfl) ?_
  refine Gx.val rfl rfl rfl (val_load rfl Try.ty3 rfl rfl (cell_rec (k := 0) rfl rfl)) ?_
  refine Gx.val rfl rfl rfl (Val.cast (val_eql rfl rfl rfl) (v' := .bool true) rfl) ?_
  refine Gx.val rfl rfl rfl (val_assign rfl rfl) ?_
  refine Gx.done ?_
  refine Gx.thenN ?_
  refine Gx.t rfl ?_
  refine Gx.seq ?_
  refine Gx.region ?_
  refine Gx.val rfl rfl rfl (val_load rfl Try.ty38 rfl rfl (cell_rec (k := 1) rfl rfl)) ?_
  refine Gx.val rfl rfl rfl (Val.cast (val_fieldAddr rfl Try.underlying33 rfl Try.ty3 rfl rfl) (v' := ptr b2 1) rfl) ?_
  refine Gx.val rfl rfl rfl (val_load rfl Try.ty3 rfl rfl (cell_rec (k := 0) rfl rfl)) ?_
  refine Gx.drop 1 rfl ?_
  refine Gx.drop 0 rfl ?_
  refine Gx.eff rfl rfl rfl (eff_call (vs := [ptr S 0, .int .i64 ((i : Nat) : Int)]) rfl Try.fn16 rfl (fun w H => note_open hok hp hn hq H)) ?_
  rintro _ l3 ⟨rr, hok2, rfl, hl3⟩
  refine Gx.sepEq (l' := [Hp.rec_ S [pv, .map (some mb)], Hp.own FP 2 pv ((noteS s i).ps), Hp.map Try.prog 47 pairL vB mb ks, Hp.big rowH rr, R]) hl3 ?_
  refine Gx.done ?_
  refine Gx.thenN ?_
  refine Gx.seq ?_
  refine Gx.region ?_
  refine Gx.val rfl rfl rfl (val_assign rfl rfl) ?_
  refine Gx.done ?_
  refine Gx.thenN ?_
  refine Gx.ret ?_
  refine Gx.blkR ?_
  refine Gx.thenR ?_
  refine Gx.front 4 rfl ?_
  refine Gx.front 4 rfl ?_
  refine Gx.front 4 rfl ?_
  refine Gx.front 4 rfl ?_
  refine Gx.front 4 rfl ?_
  refine Gx.sat (l' := [worldH S n (noteS s i), R]) (fun w H => worldH.shut (s := (noteS s i)) (hok2) H) ?_
  refine Gx.ret1 Try.results12 rfl ?_
  exact ⟨rfl, sep1 _ _⟩

theorem step_other1 {W w : World} {S n : Nat} {s : SS} {R : Hp} {i : Nat} {p : Pr} (hp : s.ps[i]? = some p) (hn : s.ps.length ≤ 6) {o nn : Int} (ho : isN s.ps.length o = false ∨ o = ((i : Nat) : Int)) (H : Sat W w (worldH S n s * R)) :
    Calls Try.prog 12 #[ptr S 0, .agg #[.int .i64 1, .int .i64 ((i : Nat) : Int), .int .i64 o, .int .i64 nn]] w (Ret W fun v l => v = .int .i64 2 ∧ sep l = worldH S n s * R) := by
  obtain ⟨pv, mb, ks, rs, hok, H⟩ := worldH.open_ H
  obtain ⟨pa, pc, hpv⟩ := own_formM (H.at_ (k := 1) rfl)
  have hil := (List.getElem?_eq_some_iff.1 hp).1
  have hiN : isN s.ps.length ((i : Nat) : Int) = true := decide_eq_true (by omega)
  refine Gx.enter (l := [Hp.rec_ S [pv, .map (some mb)], Hp.own FP 2 pv s.ps, Hp.map Try.prog 47 pairL vB mb ks, Hp.big rowH rs, R]) Try.func12 rfl Try.ntmps12 rfl (H) ?_
  refine Gx.know (m' := [(0, ptr S 0), (1, .agg #[.int .i64 1, .int .i64 ((i : Nat) : Int), .int .i64 o, .int .i64 nn])]) (.cons rfl (.cons rfl .nil)) ?_
  refine Gx.seq ?_
  refine Gx.region ?_
  refine Gx.eff rfl rfl rfl (eff_box rfl rfl (vs := [ptr S 0]) rfl) ?_
  rintro _ _ ⟨b1, rfl, rfl⟩
  refine Gx.eff rfl rfl rfl (eff_box rfl rfl (vs := [.int .i64 1, .int .i64 ((i : Nat) : Int), .int .i64 o, .int .i64 nn]) rfl) ?_
  rintro _ _ ⟨b2, rfl, rfl⟩
  refine Gx.val rfl rfl rfl (val_assign rfl rfl) ?_
  refine Gx.done ?_
  refine Gx.thenN ?_
  refine Gx.seq ?_
  refine Gx.region ?_
  refine Gx.val rfl rfl rfl (Val.cast (val_makeFunc (us := []) (vs := [ptr b1 0]) rfl rfl rfl) (v' := .func (.func 15) #[] #[ptr b1 0]) rfl) ?_
  refine Gx.val rfl rfl rfl (val_assign rfl rfl) ?_
  refine Gx.done ?_
  refine Gx.thenN ?_
  refine Gx.seq ?_
  refine Gx.block ?_
  refine Gx.seq ?_
  refine Gx.region ?_
  refine Gx.val rfl rfl rfl (Val.cast (val_fieldAddr rfl Try.underlying33 rfl Try.ty3 rfl rfl) (v' := ptr b2 0) rfl) ?_
  refine Gx.val rfl rfl rfl (val_load rfl Try.ty3 rfl rfl (cell_rec (k := 0) rfl rfl)) ?_
  refine Gx.val rfl rfl rfl (Val.cast (val_lss rfl rfl rfl) (v' := .bool false) rfl) ?_
  refine Gx.val rfl rfl rfl (val_move rfl rfl) ?_
  refine Gx.valg rfl rfl rfl rfl rfl (Val.cast (val_fieldAddr rfl Try.underlying33 rfl Try.ty3 rfl rfl) (v' := ptr b2 0) rfl) ?_
  refine Gx.valg rfl rfl rfl rfl rfl (val_load rfl Try.ty3 rfl rfl (cell_rec (k := 0) rfl rfl)) ?_
  refine Gx.valg rfl rfl rfl rfl rfl (Val.cast (val_gtr rfl rfl rfl) (v' := .bool false) rfl) ?_
  refine Gx.val rfl rfl rfl (val_pickF rfl rfl rfl) ?_
  refine Gx.val rfl rfl rfl (val_assign rfl rfl) ?_
  refine Gx.done ?_
  refine Gx.thenN ?_
  refine Gx.f rfl ?_
  refine Gx.seq ?_
  refine Gx.region ?_
  refine Gx.val rfl rfl rfl (val_move rfl rfl) ?_
  refine Gx.val rfl rfl rfl (Val.cast (val_fieldAddr rfl Try.underlying33 rfl Try.ty3 rfl rfl) (v' := ptr b2 1) rfl) ?_
  refine Gx.val rfl rfl rfl (val_load rfl Try.ty3 rfl rfl (cell_rec (k := 0) rfl rfl)) ?_
  refine Gx.val rfl rfl rfl (val_callV (vs := [.int .i64 ((i : Nat) : Int)]) (fs := []) (cs := [ptr b1 0]) rfl Try.fn15 rfl rfl (fun w H => is_any ((i : Nat) : Int) (H.at_ (k := 1) rfl).rec_.1 ((H.at_ (k := 1) rfl).cell 0 rfl) (H.at_ (k := 2) rfl).rec_.1 (((H.at_ (k := 2) rfl).cell 0 rfl).trans (congrArg some hpv)))) ?_
  refine Gx.val rfl rfl rfl (val_not rfl rfl) ?_
  refine Gx.val rfl rfl rfl (val_assign rfl rfl) ?_
  refine Gx.done ?_
  refine Gx.thenN ?_
  refine Gx.boolF rfl (by rw [hiN]; rfl) ?_
  refine Gx.seq ?_
  refine Gx.regionQ Try.mixed (by kernel_rfl) ?_
  refine Gq.val rfl rfl rfl (Val.cast (val_fieldAddr rfl Try.underlying33 rfl Try.ty3 rfl rfl) (v' := ptr b2 0) rfl) ?_
  refine Gq.val rfl rfl rfl (val_load rfl Try.ty3 rfl rfl (cell_rec (k := 0) rfl rfl)) ?_
  refine Gq.val rfl rfl rfl (Val.cast (val_eql rfl rfl rfl) (v' := .bool false) rfl) ?_
  refine Gq.val rfl rfl rfl (val_move rfl rfl) ?_
  refine Gq.skipg rfl rfl rfl rfl rfl rfl ?_
  refine Gq.skipg rfl rfl rfl rfl rfl rfl ?_
  refine Gq.skipg rfl rfl rfl rfl rfl rfl ?_
  refine Gq.skipg rfl rfl rfl rfl rfl rfl ?_
  refine Gq.skipg rfl rfl rfl rfl rfl rfl ?_
  refine Gq.skipg rfl rfl rfl rfl rfl rfl ?_
  refine Gq.skipg rfl rfl rfl rfl rfl rfl ?_
  refine Gq.skipg rfl rfl rfl rfl rfl rfl ?_
  refine Gq.skipg rfl rfl rfl rfl rfl rfl ?_
  refine Gq.skipg rfl rfl rfl rfl rfl rfl ?_
  refine Gq.val rfl rfl rfl (val_pickF rfl rfl rfl) ?_
  refine Gq.val rfl rfl rfl (val_assign rfl rfl) ?_
  refine Gq.done ?_
  refine Gx.thenN ?_
  refine Gx.f rfl ?_
  refine Gx.seq ?_
  refine Gx.region ?_
  refine Gx.val rfl rfl rfl (Val.cast (val_fieldAddr rfl Try.underlying33 rfl Try.ty3 rfl rfl) (v' := ptr b2 0) rfl) ?_
  refine Gx.val rfl rfl rfl (val_load rfl Try.ty3 rfl rfl (cell_rec (k := 0) rfl rfl)) ?_
  refine Gx.val rfl rfl rfl (Val.cast (val_eql rfl rfl rfl) (v' := .bool false) rfl) ?_
  refine Gx.val rfl rfl rfl (val_assign rfl rfl) ?_
  refine Gx.done ?_
  refine Gx.thenN ?_
  refine Gx.f rfl ?_
  refine Gx.seq ?_
  refine Gx.region ?_
  refine Gx.val rfl rfl rfl (val_move rfl rfl) ?_
  refine Gx.val rfl rfl rfl (Val.cast (val_fieldAddr rfl Try.underlying33 rfl Try.ty3 rfl rfl) (v' := ptr b2 2) rfl) ?_
  refine Gx.val rfl rfl rfl (val_load rfl Try.ty3 rfl rfl (cell_rec (k := 0) rfl rfl)) ?_
  refine Gx.val rfl rfl rfl (val_callV (vs := [.int .i64 o]) (fs := []) (cs := [ptr b1 0]) rfl Try.fn15 rfl rfl (fun w H => is_any o (H.at_ (k := 1) rfl).rec_.1 ((H.at_ (k := 1) rfl).cell 0 rfl) (H.at_ (k := 2) rfl).rec_.1 (((H.at_ (k := 2) rfl).cell 0 rfl).trans (congrArg some hpv)))) ?_
  refine Gx.val rfl rfl rfl (val_not rfl rfl) ?_
  refine Gx.val rfl rfl rfl (val_move rfl rfl) ?_
  refine Gx.casesB (t := 54) rfl (fun h3 => ?_) (fun h3 => ?_)
  · refine Gx.skipg rfl rfl rfl rfl rfl rfl ?_
    refine Gx.skipg rfl rfl rfl rfl rfl rfl ?_
    refine Gx.skipg rfl rfl rfl rfl rfl rfl ?_
    refine Gx.skipg rfl rfl rfl rfl rfl rfl ?_
    refine Gx.skipg rfl rfl rfl rfl rfl rfl ?_
    refine Gx.val rfl rfl rfl (val_pickT rfl rfl rfl) ?_
    refine Gx.val rfl rfl rfl (val_assign rfl rfl) ?_
    refine Gx.done ?_
    refine Gx.thenN ?_
    refine Gx.t rfl ?_
    refine Gx.seq ?_
    refine Gx.region ?_
    refine Gx.val rfl rfl rfl (val_assign rfl rfl) ?_
    refine Gx.done ?_
    refine Gx.thenN ?_
    refine Gx.ret ?_
    refine Gx.blkR ?_
    refine Gx.thenR ?_
    refine Gx.drop 1 rfl ?_
    refine Gx.drop 0 rfl ?_
    refine Gx.front 4 rfl ?_
    refine Gx.front 4 rfl ?_
    refine Gx.front 4 rfl ?_
    refine Gx.front 4 rfl ?_
    refine Gx.front 4 rfl ?_
    refine Gx.sat (l' := [worldH S n s, R]) (fun w H => worldH.shut (s := s) (hok) H) ?_
    refine Gx.ret1 Try.results12 rfl ?_
    exact ⟨rfl, sep1 _ _⟩
  · refine Gx.valg rfl rfl rfl rfl rfl (Val.cast (val_fieldAddr rfl Try.underlying33 rfl Try.ty3 rfl rfl) (v' := ptr b2 2) rfl) ?_
    refine Gx.valg rfl rfl rfl rfl rfl (val_load rfl Try.ty3 rfl rfl (cell_rec (k := 0) rfl rfl)) ?_
    refine Gx.valg rfl rfl rfl rfl rfl (Val.cast (val_fieldAddr rfl Try.underlying33 rfl Try.ty3 rfl rfl) (v' := ptr b2 1) rfl) ?_
    refine Gx.valg rfl rfl rfl rfl rfl (val_load rfl Try.ty3 rfl rfl (cell_rec (k := 0) rfl rfl)) ?_
    refine Gx.valg rfl rfl rfl rfl rfl (val_eql rfl rfl rfl) ?_
    refine Gx.val rfl rfl rfl (val_pickF rfl rfl rfl) ?_
    refine Gx.val rfl rfl rfl (val_assign rfl rfl) ?_
    refine Gx.done ?_
    refine Gx.thenN ?_
    refine Gx.dec rfl (fun h4 => ?_) (fun h4 => ?_)
    · refine Gx.seq ?_
      refine Gx.region ?_
      refine Gx.val rfl rfl rfl (val_assign rfl rfl) ?_
      refine Gx.done ?_
      refine Gx.thenN ?_
      refine Gx.ret ?_
      refine Gx.blkR ?_
      refine Gx.thenR ?_
      refine Gx.drop 1 rfl ?_
      refine Gx.drop 0 rfl ?_
      refine Gx.front 4 rfl ?_
      refine Gx.front 4 rfl ?_
      refine Gx.front 4 rfl ?_
      refine Gx.front 4 rfl ?_
      refine Gx.front 4 rfl ?_
      refine Gx.sat (l' := [worldH S n s, R]) (fun w H => worldH.shut (s := s) (hok) H) ?_
      refine Gx.ret1 Try.results12 rfl ?_
      exact ⟨rfl, sep1 _ _⟩
    · exfalso
      rcases ho with h | h <;> simp_all

theorem step_other2 {W w : World} {S n : Nat} {s : SS} {R : Hp} {i : Nat} {p : Pr} (hp : s.ps[i]? = some p) (hn : s.ps.length ≤ 6) {o nn : Int} (ho : isN s.ps.length o = false ∨ o = ((i : Nat) : Int)) (H : Sat W w (worldH S n s * R)) :
    Calls Try.prog 12 #[ptr S 0, .agg #[.int .i64 2, .int .i64 ((i : Nat) : Int), .int .i64 o, .int .i64 nn]] w (Ret W fun v l => v = .int .i64 2 ∧ sep l = worldH S n s * R) := by
  obtain ⟨pv, mb, ks, rs, hok, H⟩ := worldH.open_ H
  obtain ⟨pa, pc, hpv⟩ := own_formM (H.at_ (k := 1) rfl)
  have hil := (List.getElem?_eq_some_iff.1 hp).1
  have hiN : isN s.ps.length ((i : Nat) : Int) = true := decide_eq_true (by omega)
  refine Gx.enter (l := [Hp.rec_ S [pv, .map (some mb)], Hp.own FP 2 pv s.ps, Hp.map Try.prog 47 pairL vB mb ks, Hp.big rowH rs, R]) Try.func12 rfl Try.ntmps12 rfl (H) ?_
  refine Gx.know (m' := [(0, ptr S 0), (1, .agg #[.int .i64 2, .int .i64 ((i : Nat) : Int), .int .i64 o, .int .i64 nn])]) (.cons rfl (.cons rfl .nil)) ?_
  refine Gx.seq ?_
  refine Gx.region ?_
  refine Gx.eff rfl rfl rfl (eff_box rfl rfl (vs := [ptr S 0]) rfl) ?_
  rintro _ _ ⟨b1, rfl, rfl⟩
  refine Gx.eff rfl rfl rfl (eff_box rfl rfl (vs := [.int .i64 2, .int .i64 ((i : Nat) : Int), .int .i64 o, .int .i64 nn]) rfl) ?_
  rintro _ _ ⟨b2, rfl, rfl⟩
  refine Gx.val rfl rfl rfl (val_assign rfl rfl) ?_
  refine Gx.done ?_
  refine Gx.thenN ?_
  refine Gx.seq ?_
  refine Gx.region ?_
  refine Gx.val rfl rfl rfl (Val.cast (val_makeFunc (us := []) (vs := [ptr b1 0]) rfl rfl rfl) (v' := .func (.func 15) #[] #[ptr b1 0]) rfl) ?_
  refine Gx.val rfl rfl rfl (val_assign rfl rfl) ?_
  refine Gx.done ?_
  refine Gx.thenN ?_
  refine Gx.seq ?_
  refine Gx.block ?_
  refine Gx.seq ?_
  refine Gx.region ?_
  refine Gx.val rfl rfl rfl (Val.cast (val_fieldAddr rfl Try.underlying33 rfl Try.ty3 rfl rfl) (v' := ptr b2 0) rfl) ?_
  refine Gx.val rfl rfl rfl (val_load rfl Try.ty3 rfl rfl (cell_rec (k := 0) rfl rfl)) ?_
  refine Gx.val rfl rfl rfl (Val.cast (val_lss rfl rfl rfl) (v' := .bool false) rfl) ?_
  refine Gx.val rfl rfl rfl (val_move rfl rfl) ?_
  refine Gx.valg rfl rfl rfl rfl rfl (Val.cast (val_fieldAddr rfl Try.underlying33 rfl Try.ty3 rfl rfl) (v' := ptr b2 0) rfl) ?_
  refine Gx.valg rfl rfl rfl rfl rfl (val_load rfl Try.ty3 rfl rfl (cell_rec (k := 0) rfl rfl)) ?_
  refine Gx.valg rfl rfl rfl rfl rfl (Val.cast (val_gtr rfl rfl rfl) (v' := .bool false) rfl) ?_
  refine Gx.val rfl rfl rfl (val_pickF rfl rfl rfl) ?_
  refine Gx.val rfl rfl rfl (val_assign rfl rfl) ?_
  refine Gx.done ?_
  refine Gx.thenN ?_
  refine Gx.f rfl ?_
  refine Gx.seq ?_
  refine Gx.region ?_
  refine Gx.val rfl rfl rfl (val_move rfl rfl) ?_
  refine Gx.val rfl rfl rfl (Val.cast (val_fieldAddr rfl Try.underlying33 rfl Try.ty3 rfl rfl) (v' := ptr b2 1) rfl) ?_
  refine Gx.val rfl rfl rfl (val_load rfl Try.ty3 rfl rfl (cell_rec (k := 0) rfl rfl)) ?_
  refine Gx.val rfl rfl rfl (val_callV (vs := [.int .i64 ((i : Nat) : Int)]) (fs := []) (cs := [ptr b1 0]) rfl Try.fn15 rfl rfl (fun w H => is_any ((i : Nat) : Int) (H.at_ (k := 1) rfl).rec_.1 ((H.at_ (k := 1) rfl).cell 0 rfl) (H.at_ (k := 2) rfl).rec_.1 (((H.at_ (k := 2) rfl).cell 0 rfl).trans (congrArg some hpv)))) ?_
  refine Gx.val rfl rfl rfl (val_not rfl rfl) ?_
  refine Gx.val rfl rfl rfl (val_assign rfl rfl) ?_
  refine Gx.done ?_
  refine Gx.thenN ?_
  refine Gx.boolF rfl (by rw [hiN]; rfl) ?_
  refine Gx.seq ?_
  refine Gx.regionQ Try.mixed (by kernel_rfl) ?_
  refine Gq.val rfl rfl rfl (Val.cast (val_fieldAddr rfl Try.underlying33 rfl Try.ty3 rfl rfl) (v' := ptr b2 0) rfl) ?_
  refine Gq.val rfl rfl rfl (val_load rfl Try.ty3 rfl rfl (cell_rec (k := 0) rfl rfl)) ?_
  refine Gq.val rfl rfl rfl (Val.cast (val_eql rfl rfl rfl) (v' := .bool false) rfl) ?_
  refine Gq.val rfl rfl rfl (val_move rfl rfl) ?_
  refine Gq.skipg rfl rfl rfl rfl rfl rfl ?_
  refine Gq.skipg rfl rfl rfl rfl rfl rfl ?_
  refine Gq.skipg rfl rfl rfl rfl rfl rfl ?_
  refine Gq.skipg rfl rfl rfl rfl rfl rfl ?_
  refine Gq.skipg rfl rfl rfl rfl rfl rfl ?_
  refine Gq.skipg rfl rfl rfl rfl rfl rfl ?_
  refine Gq.skipg rfl rfl rfl rfl rfl rfl ?_
  refine Gq.skipg rfl rfl rfl rfl rfl rfl ?_
  refine Gq.skipg rfl rfl rfl rfl rfl rfl ?_
  refine Gq.skipg rfl rfl rfl rfl rfl rfl ?_
  refine Gq.val rfl rfl rfl (val_pickF rfl rfl rfl) ?_
  refine Gq.val rfl rfl rfl (val_assign rfl rfl) ?_
  refine Gq.done ?_
  refine Gx.thenN ?_
  refine Gx.f rfl ?_
  refine Gx.seq ?_
  refine Gx.region ?_
  refine Gx.val rfl rfl rfl (Val.cast (val_fieldAddr rfl Try.underlying33 rfl Try.ty3 rfl rfl) (v' := ptr b2 0) rfl) ?_
  refine Gx.val rfl rfl rfl (val_load rfl Try.ty3 rfl rfl (cell_rec (k := 0) rfl rfl)) ?_
  refine Gx.val rfl rfl rfl (Val.cast (val_eql rfl rfl rfl) (v' := .bool false) rfl) ?_
  refine Gx.val rfl rfl rfl (val_assign rfl rfl) ?_
  refine Gx.done ?_
  refine Gx.thenN ?_
  refine Gx.f rfl ?_
  refine Gx.seq ?_
  refine Gx.region ?_
  refine Gx.val rfl rfl rfl (val_move rfl rfl) ?_
  refine Gx.val rfl rfl rfl (Val.cast (val_fieldAddr rfl Try.underlying33 rfl Try.ty3 rfl rfl) (v' := ptr b2 2) rfl) ?_
  refine Gx.val rfl rfl rfl (val_load rfl Try.ty3 rfl rfl (cell_rec (k := 0) rfl rfl)) ?_
  refine Gx.val rfl rfl rfl (val_callV (vs := [.int .i64 o]) (fs := []) (cs := [ptr b1 0]) rfl Try.fn15 rfl rfl (fun w H => is_any o (H.at_ (k := 1) rfl).rec_.1 ((H.at_ (k := 1) rfl).cell 0 rfl) (H.at_ (k := 2) rfl).rec_.1 (((H.at_ (k := 2) rfl).cell 0 rfl).trans (congrArg some hpv)))) ?_
  refine Gx.val rfl rfl rfl (val_not rfl rfl) ?_
  refine Gx.val rfl rfl rfl (val_move rfl rfl) ?_
  refine Gx.casesB (t := 54) rfl (fun h3 => ?_) (fun h3 => ?_)
  · refine Gx.skipg rfl rfl rfl rfl rfl rfl ?_
    refine Gx.skipg rfl rfl rfl rfl rfl rfl ?_
    refine Gx.skipg rfl rfl rfl rfl rfl rfl ?_
    refine Gx.skipg rfl rfl rfl rfl rfl rfl ?_
    refine Gx.skipg rfl rfl rfl rfl rfl rfl ?_
    refine Gx.val rfl rfl rfl (val_pickT rfl rfl rfl) ?_
    refine Gx.val rfl rfl rfl (val_assign rfl rfl) ?_
    refine Gx.done ?_
    refine Gx.thenN ?_
    refine Gx.t rfl ?_
    refine Gx.seq ?_
    refine Gx.region ?_
    refine Gx.val rfl rfl rfl (val_assign rfl rfl) ?_
    refine Gx.done ?_
    refine Gx.thenN ?_
    refine Gx.ret ?_
    refine Gx.blkR ?_
    refine Gx.thenR ?_
    refine Gx.drop 1 rfl ?_
    refine Gx.drop 0 rfl ?_
    refine Gx.front 4 rfl ?_
    refine Gx.front 4 rfl ?_
    refine Gx.front 4 rfl ?_
    refine Gx.front 4 rfl ?_
    refine Gx.front 4 rfl ?_
    refine Gx.sat (l' := [worldH S n s, R]) (fun w H => worldH.shut (s := s) (hok) H) ?_
    refine Gx.ret1 Try.results12 rfl ?_
    exact ⟨rfl, sep1 _ _⟩
  · refine Gx.valg rfl rfl rfl rfl rfl (Val.cast (val_fieldAddr rfl Try.underlying33 rfl Try.ty3 rfl rfl) (v' := ptr b2 2) rfl) ?_
    refine Gx.valg rfl rfl rfl rfl rfl (val_load rfl Try.ty3 rfl rfl (cell_rec (k := 0) rfl rfl)) ?_
    refine Gx.valg rfl rfl rfl rfl rfl (Val.cast (val_fieldAddr rfl Try.underlying33 rfl Try.ty3 rfl rfl) (v' := ptr b2 1) rfl) ?_
    refine Gx.valg rfl rfl rfl rfl rfl (val_load rfl Try.ty3 rfl rfl (cell_rec (k := 0) rfl rfl)) ?_
    refine Gx.valg rfl rfl rfl rfl rfl (val_eql rfl rfl rfl) ?_
    refine Gx.val rfl rfl rfl (val_pickF rfl rfl rfl) ?_
    refine Gx.val rfl rfl rfl (val_assign rfl rfl) ?_
    refine Gx.done ?_
    refine Gx.thenN ?_
    refine Gx.dec rfl (fun h4 => ?_) (fun h4 => ?_)
    · refine Gx.seq ?_
      refine Gx.region ?_
      refine Gx.val rfl rfl rfl (val_assign rfl rfl) ?_
      refine Gx.done ?_
      refine Gx.thenN ?_
      refine Gx.ret ?_
      refine Gx.blkR ?_
      refine Gx.thenR ?_
      refine Gx.drop 1 rfl ?_
      refine Gx.drop 0 rfl ?_
      refine Gx.front 4 rfl ?_
      refine Gx.front 4 rfl ?_
      refine Gx.front 4 rfl ?_
      refine Gx.front 4 rfl ?_
      refine Gx.front 4 rfl ?_
      refine Gx.sat (l' := [worldH S n s, R]) (fun w H => worldH.shut (s := s) (hok) H) ?_
      refine Gx.ret1 Try.results12 rfl ?_
      exact ⟨rfl, sep1 _ _⟩
    · exfalso
      rcases ho with h | h <;> simp_all

theorem step_take {W w : World} {S n : Nat} {s : SS} {R : Hp} {i : Nat} {p : Pr} (hp : s.ps[i]? = some p) (hn : s.ps.length ≤ 6) {j : Nat} {nn z : Int} {s2 : SS} (hj : j < s.ps.length) (hne : j ≠ i) (D : ∀ {W w : World} {R : Hp}, Sat W w (worldH S n s * R) → Calls Try.prog 17 #[ptr S 0, .int .i64 ((j : Nat) : Int), .int .i64 ((i : Nat) : Int)] w (Ret W fun v l => v = .int .i64 z ∧ sep l = worldH S n s2 * R)) (H : Sat W w (worldH S n s * R)) :
    Calls Try.prog 12 #[ptr S 0, .agg #[.int .i64 2, .int .i64 ((i : Nat) : Int), .int .i64 ((j : Nat) : Int), .int .i64 nn]] w (Ret W fun v l => v = .int .i64 z ∧ sep l = worldH S n s2 * R) := by
  obtain ⟨pv, mb, ks, rs, hok, H⟩ := worldH.open_ H
  obtain ⟨pa, pc, hpv⟩ := own_formM (H.at_ (k := 1) rfl)
  have hil := (List.getElem?_eq_some_iff.1 hp).1
  have hiN : isN s.ps.length ((i : Nat) : Int) = true := decide_eq_true (by omega)
  have hjN : isN s.ps.length ((j : Nat) : Int) = true := decide_eq_true (by omega)
  refine Gx.enter (l := [Hp.rec_ S [pv, .map (some mb)], Hp.own FP 2 pv s.ps, Hp.map Try.prog 47 pairL vB mb ks, Hp.big rowH rs, R]) Try.func12 rfl Try.ntmps12 rfl (H) ?_
  refine Gx.know (m' := [(0, ptr S 0), (1, .agg #[.int .i64 2, .int .i64 ((i : Nat) : Int), .int .i64 ((j : Nat) : Int), .int .i64 nn])]) (.cons rfl (.cons rfl .nil)) ?_
  refine Gx.seq ?_
  refine Gx.region ?_
  refine Gx.eff rfl rfl rfl (eff_box rfl rfl (vs := [ptr S 0]) rfl) ?_
  rintro _ _ ⟨b1, rfl, rfl⟩
  refine Gx.eff rfl rfl rfl (eff_box rfl rfl (vs := [.int .i64 2, .int .i64 ((i : Nat) : Int), .int .i64 ((j : Nat) : Int), .int .i64 nn]) rfl) ?_
  rintro _ _ ⟨b2, rfl, rfl⟩
  refine Gx.val rfl rfl rfl (val_assign rfl rfl) ?_
  refine Gx.done ?_
  refine Gx.thenN ?_
  refine Gx.seq ?_
  refine Gx.region ?_
  refine Gx.val rfl rfl rfl (Val.cast (val_makeFunc (us := []) (vs := [ptr b1 0]) rfl rfl rfl) (v' := .func (.func 15) #[] #[ptr b1 0]) rfl) ?_
  refine Gx.val rfl rfl rfl (val_assign rfl rfl) ?_
  refine Gx.done ?_
  refine Gx.thenN ?_
  refine Gx.seq ?_
  refine Gx.block ?_
  refine Gx.seq ?_
  refine Gx.region ?_
  refine Gx.val rfl rfl rfl (Val.cast (val_fieldAddr rfl Try.underlying33 rfl Try.ty3 rfl rfl) (v' := ptr b2 0) rfl) ?_
  refine Gx.val rfl rfl rfl (val_load rfl Try.ty3 rfl rfl (cell_rec (k := 0) rfl rfl)) ?_
  refine Gx.val rfl rfl rfl (Val.cast (val_lss rfl rfl rfl) (v' := .bool false) rfl) ?_
  refine Gx.val rfl rfl rfl (val_move rfl rfl) ?_
  refine Gx.valg rfl rfl rfl rfl rfl (Val.cast (val_fieldAddr rfl Try.underlying33 rfl Try.ty3 rfl rfl) (v' := ptr b2 0) rfl) ?_
  refine Gx.valg rfl rfl rfl rfl rfl (val_load rfl Try.ty3 rfl rfl (cell_rec (k := 0) rfl rfl)) ?_
  refine Gx.valg rfl rfl rfl rfl rfl (Val.cast (val_gtr rfl rfl rfl) (v' := .bool false) rfl) ?_
  refine Gx.val rfl rfl rfl (val_pickF rfl rfl rfl) ?_
  refine Gx.val rfl rfl rfl (val_assign rfl rfl) ?_
  refine Gx.done ?_
  refine Gx.thenN ?_
  refine Gx.f rfl ?_
  refine Gx.seq ?_
  refine Gx.region ?_
  refine Gx.val rfl rfl rfl (val_move rfl rfl) ?_
  refine Gx.val rfl rfl rfl (Val.cast (val_fieldAddr rfl Try.underlying33 rfl Try.ty3 rfl rfl) (v' := ptr b2 1) rfl) ?_
  refine Gx.val rfl rfl rfl (val_load rfl Try.ty3 rfl rfl (cell_rec (k := 0) rfl rfl)) ?_
  refine Gx.val rfl rfl rfl (val_callV (vs := [.int .i64 ((i : Nat) : Int)]) (fs := []) (cs := [ptr b1 0]) rfl Try.fn15 rfl rfl (fun w H => is_any ((i : Nat) : Int) (H.at_ (k := 1) rfl).rec_.1 ((H.at_ (k := 1) rfl).cell 0 rfl) (H.at_ (k := 2) rfl).rec_.1 (((H.at_ (k := 2) rfl).cell 0 rfl).trans (congrArg some hpv)))) ?_
  refine Gx.val rfl rfl rfl (val_not rfl rfl) ?_
  refine Gx.val rfl rfl rfl (val_assign rfl rfl) ?_
  refine Gx.done ?_
  refine Gx.thenN ?_
  refine Gx.boolF rfl (by rw [hiN]; rfl) ?_
  refine Gx.seq ?_
  refine Gx.regionQ Try.mixed (by kernel_rfl) ?_
  refine Gq.val rfl rfl rfl (Val.cast (val_fieldAddr rfl Try.underlying33 rfl Try.ty3 rfl rfl) (v' := ptr b2 0) rfl) ?_
  refine Gq.val rfl rfl rfl (val_load rfl Try.ty3 rfl rfl (cell_rec (k := 0) rfl rfl)) ?_
  refine Gq.val rfl rfl rfl (Val.cast (val_eql rfl rfl rfl) (v' := .bool false) rfl) ?_
  refine Gq.val rfl rfl rfl (val_move rfl rfl) ?_
  refine Gq.skipg rfl rfl rfl rfl rfl rfl ?_
  refine Gq.skipg rfl rfl rfl rfl rfl rfl ?_
  refine Gq.skipg rfl rfl rfl rfl rfl rfl ?_
  refine Gq.skipg rfl rfl rfl rfl rfl rfl ?_
  refine Gq.skipg rfl rfl rfl rfl rfl rfl ?_
  refine Gq.skipg rfl rfl rfl rfl rfl rfl ?_
  refine Gq.skipg rfl rfl rfl rfl rfl rfl ?_
  refine Gq.skipg rfl rfl rfl rfl rfl rfl ?_
  refine Gq.skipg rfl rfl rfl rfl rfl rfl ?_
  refine Gq.skipg rfl rfl rfl rfl rfl rfl ?_
  refine Gq.val rfl rfl rfl (val_pickF rfl rfl rfl) ?_
  refine Gq.val rfl rfl rfl (val_assign rfl rfl) ?_
  refine Gq.done ?_
  refine Gx.thenN ?_
  refine Gx.f rfl ?_
  refine Gx.seq ?_
  refine Gx.region ?_
  refine Gx.val rfl rfl rfl (Val.cast (val_fieldAddr rfl Try.underlying33 rfl Try.ty3 rfl rfl) (v' := ptr b2 0) rfl) ?_
  refine Gx.val rfl rfl rfl (val_load rfl Try.ty3 rfl rfl (cell_rec (k := 0) rfl rfl)) ?_
  refine Gx.val rfl rfl rfl (Val.cast (val_eql rfl rfl rfl) (v' := .bool false) rfl) ?_
  refine Gx.val rfl rfl rfl (val_assign rfl rfl) ?_
  refine Gx.done ?_
  refine Gx.thenN ?_
  refine Gx.f rfl ?_
  refine Gx.seq ?_
  refine Gx.region ?_
  refine Gx.val rfl rfl rfl (val_move rfl rfl) ?_
  refine Gx.val rfl rfl rfl (Val.cast (val_fieldAddr rfl Try.underlying33 rfl Try.ty3 rfl rfl) (v' := ptr b2 2) rfl) ?_
  refine Gx.val rfl rfl rfl (val_load rfl Try.ty3 rfl rfl (cell_rec (k := 0) rfl rfl)) ?_
  refine Gx.val rfl rfl rfl (val_callV (vs := [.int .i64 ((j : Nat) : Int)]) (fs := []) (cs := [ptr b1 0]) rfl Try.fn15 rfl rfl (fun w H => is_any ((j : Nat) : Int) (H.at_ (k := 1) rfl).rec_.1 ((H.at_ (k := 1) rfl).cell 0 rfl) (H.at_ (k := 2) rfl).rec_.1 (((H.at_ (k := 2) rfl).cell 0 rfl).trans (congrArg some hpv)))) ?_
  refine Gx.val rfl rfl rfl (val_not rfl rfl) ?_
  refine Gx.val rfl rfl rfl (val_move rfl rfl) ?_
  refine Gx.slot (t := 54) (v := .bool false) (look_boolF rfl (by rw [hjN]; rfl)) ?_
  refine Gx.valg rfl rfl rfl rfl rfl (Val.cast (val_fieldAddr rfl Try.underlying33 rfl Try.ty3 rfl rfl) (v' := ptr b2 2) rfl) ?_
  refine Gx.valg rfl rfl rfl rfl rfl (val_load rfl Try.ty3 rfl rfl (cell_rec (k := 0) rfl rfl)) ?_
  refine Gx.valg rfl rfl rfl rfl rfl (Val.cast (val_fieldAddr rfl Try.underlying33 rfl Try.ty3 rfl rfl) (v' := ptr b2 1) rfl) ?_
  refine Gx.valg rfl rfl rfl rfl rfl (val_load rfl Try.ty3 rfl rfl (cell_rec (k := 0) rfl rfl)) ?_
  refine Gx.valg rfl rfl rfl rfl rfl (val_eql rfl rfl rfl) ?_
  refine Gx.val rfl rfl rfl (val_pickF rfl rfl rfl) ?_
  refine Gx.val rfl rfl rfl (val_assign rfl rfl) ?_
  refine Gx.done ?_
  refine Gx.thenN ?_
  refine Gx.decF rfl (by omega) ?_
  refine Gx.seq ?_
  refine Gx.region ?_
  refine Gx.val rfl rfl rfl (Val.cast (val_fieldAddr rfl Try.underlying33 rfl Try.ty3 rfl rfl) (v' := ptr b2 0) rfl) ?_
  refine Gx.val rfl rfl rfl (val_load rfl Try.ty3 rfl rfl (cell_rec (k := 0) rfl rfl)) ?_
  refine Gx.val rfl rfl rfl (Val.cast (val_eql rfl rfl rfl) (v' := .bool true) rfl) ?_
  refine Gx.val rfl rfl rfl (val_assign rfl rfl) ?_
  refine Gx.done ?_
  refine Gx.thenN ?_
  refine Gx.t rfl ?_
  refine Gx.seq ?_
  refine Gx.region ?_
  refine Gx.val rfl rfl rfl (val_load rfl Try.ty38 rfl rfl (cell_rec (k := 1) rfl rfl)) ?_
  refine Gx.val rfl rfl rfl (Val.cast (val_fieldAddr rfl Try.underlying33 rfl Try.ty3 rfl rfl) (v' := ptr b2 2) rfl) ?_
  refine Gx.val rfl rfl rfl (val_load rfl Try.ty3 rfl rfl (cell_rec (k := 0) rfl rfl)) ?_
  refine Gx.val rfl rfl rfl (Val.cast (val_fieldAddr rfl Try.underlying33 rfl Try.ty3 rfl rfl) (v' := ptr b2 1) rfl) ?_
  refine Gx.val rfl rfl rfl (val_load rfl Try.ty3 rfl rfl (cell_rec (k := 0) rfl rfl)) ?_
  refine Gx.drop 1 rfl ?_
  refine Gx.drop 0 rfl ?_
  refine Gx.front 4 rfl ?_
  refine Gx.front 4 rfl ?_
  refine Gx.front 4 rfl ?_
  refine Gx.front 4 rfl ?_
  refine Gx.front 4 rfl ?_
  refine Gx.sat (l' := [worldH S n s, R]) (fun w H => worldH.shut (s := s) (hok) H) ?_
  refine Gx.eff rfl rfl rfl (eff_call (vs := [ptr S 0, .int .i64 ((j : Nat) : Int), .int .i64 ((i : Nat) : Int)]) rfl Try.fn17 rfl (fun w H => D (H.at_ (k := 0) rfl))) ?_
  rintro _ l3 ⟨rfl, hl3⟩
  refine Gx.sepEq (l' := [worldH S n s2, R]) hl3 ?_
  refine Gx.val rfl rfl rfl (val_assign rfl rfl) ?_
  refine Gx.done ?_
  refine Gx.thenN ?_
  refine Gx.ret ?_
  refine Gx.blkR ?_
  refine Gx.thenR ?_
  refine Gx.ret1 Try.results12 rfl ?_
  exact ⟨rfl, sep1 _ _⟩

theorem step_sendno {W w : World} {S n : Nat} {s : SS} {R : Hp} {ik jk : Sm} {p : Pr} (hp : s.ps[ik.val]? = some p) (hn : s.ps.length ≤ 6) {nn : Int} (hnn : n = s.ps.length) (hj : jk.val < s.ps.length) (hne : jk ≠ ik) (hq : ∀ a, (s.w a).q.length ≤ 10000) (hm0 : 0 ≤ p.mo) (hm1 : p.mo ≤ 100000) (hx : nn < 1 ∨ p.mo < nn) (H : Sat W w (worldH S n s * R)) :
    Calls Try.prog 12 #[ptr S 0, .agg #[.int .i64 1, .int .i64 ((ik.val : Nat) : Int), .int .i64 ((jk.val : Nat) : Int), .int .i64 nn]] w (Ret W fun v l => v = .int .i64 2 ∧ sep l = worldH S n s * R) := by
  obtain ⟨pv, mb, ks, rs, hok, H⟩ := worldH.open_ H
  obtain ⟨pa, pc, hpv⟩ := own_formM (H.at_ (k := 1) rfl)
  have hil := (List.getElem?_eq_some_iff.1 hp).1
  have hiN : isN s.ps.length ((ik.val : Nat) : Int) = true := decide_eq_true (by omega)
  have hjN : isN s.ps.length ((jk.val : Nat) : Int) = true := decide_eq_true (by omega)
  have hnv : jk.val ≠ ik.val := fun e => hne (Fin.ext e)
  obtain ⟨kk, r, hkk, hrr, hrw, hgk⟩ := hok.at_ (a := (ik, jk)) (by dsimp only; omega) (by dsimp only; omega) (Ne.symm hne)
  have hqs := row_isS hrr H
  have hrq := hq (ik, jk)
  rw [← hrw] at hrq
  refine Gx.enter (l := [Hp.rec_ S [pv, .map (some mb)], Hp.own FP 2 pv s.ps, Hp.map Try.prog 47 pairL vB mb ks, Hp.big rowH rs, R]) Try.func12 rfl Try.ntmps12 rfl (H) ?_
  refine Gx.know (m' := [(0, ptr S 0), (1, .agg #[.int .i64 1, .int .i64 ((ik.val : Nat) : Int), .int .i64 ((jk.val : Nat) : Int), .int .i64 nn])]) (.cons rfl (.cons rfl .nil)) ?_
  refine Gx.seq ?_
  refine Gx.region ?_
  refine Gx.eff rfl rfl rfl (eff_box rfl rfl (vs := [ptr S 0]) rfl) ?_
  rintro _ _ ⟨b1, rfl, rfl⟩
  refine Gx.eff rfl rfl rfl (eff_box rfl rfl (vs := [.int .i64 1, .int .i64 ((ik.val : Nat) : Int), .int .i64 ((jk.val : Nat) : Int), .int .i64 nn]) rfl) ?_
  rintro _ _ ⟨b2, rfl, rfl⟩
  refine Gx.val rfl rfl rfl (val_assign rfl rfl) ?_
  refine Gx.done ?_
  refine Gx.thenN ?_
  refine Gx.seq ?_
  refine Gx.region ?_
  refine Gx.val rfl rfl rfl (Val.cast (val_makeFunc (us := []) (vs := [ptr b1 0]) rfl rfl rfl) (v' := .func (.func 15) #[] #[ptr b1 0]) rfl) ?_
  refine Gx.val rfl rfl rfl (val_assign rfl rfl) ?_
  refine Gx.done ?_
  refine Gx.thenN ?_
  refine Gx.seq ?_
  refine Gx.block ?_
  refine Gx.seq ?_
  refine Gx.region ?_
  refine Gx.val rfl rfl rfl (Val.cast (val_fieldAddr rfl Try.underlying33 rfl Try.ty3 rfl rfl) (v' := ptr b2 0) rfl) ?_
  refine Gx.val rfl rfl rfl (val_load rfl Try.ty3 rfl rfl (cell_rec (k := 0) rfl rfl)) ?_
  refine Gx.val rfl rfl rfl (Val.cast (val_lss rfl rfl rfl) (v' := .bool false) rfl) ?_
  refine Gx.val rfl rfl rfl (val_move rfl rfl) ?_
  refine Gx.valg rfl rfl rfl rfl rfl (Val.cast (val_fieldAddr rfl Try.underlying33 rfl Try.ty3 rfl rfl) (v' := ptr b2 0) rfl) ?_
  refine Gx.valg rfl rfl rfl rfl rfl (val_load rfl Try.ty3 rfl rfl (cell_rec (k := 0) rfl rfl)) ?_
  refine Gx.valg rfl rfl rfl rfl rfl (Val.cast (val_gtr rfl rfl rfl) (v' := .bool false) rfl) ?_
  refine Gx.val rfl rfl rfl (val_pickF rfl rfl rfl) ?_
  refine Gx.val rfl rfl rfl (val_assign rfl rfl) ?_
  refine Gx.done ?_
  refine Gx.thenN ?_
  refine Gx.f rfl ?_
  refine Gx.seq ?_
  refine Gx.region ?_
  refine Gx.val rfl rfl rfl (val_move rfl rfl) ?_
  refine Gx.val rfl rfl rfl (Val.cast (val_fieldAddr rfl Try.underlying33 rfl Try.ty3 rfl rfl) (v' := ptr b2 1) rfl) ?_
  refine Gx.val rfl rfl rfl (val_load rfl Try.ty3 rfl rfl (cell_rec (k := 0) rfl rfl)) ?_
  refine Gx.val rfl rfl rfl (val_callV (vs := [.int .i64 ((ik.val : Nat) : Int)]) (fs := []) (cs := [ptr b1 0]) rfl Try.fn15 rfl rfl (fun w H => is_any ((ik.val : Nat) : Int) (H.at_ (k := 1) rfl).rec_.1 ((H.at_ (k := 1) rfl).cell 0 rfl) (H.at_ (k := 2) rfl).rec_.1 (((H.at_ (k := 2) rfl).cell 0 rfl).trans (congrArg some hpv)))) ?_
  refine Gx.val rfl rfl rfl (val_not rfl rfl) ?_
  refine Gx.val rfl rfl rfl (val_assign rfl rfl) ?_
  refine Gx.done ?_
  refine Gx.thenN ?_
  refine Gx.boolF rfl (by rw [hiN]; rfl) ?_
  refine Gx.seq ?_
  refine Gx.regionQ Try.mixed (by kernel_rfl) ?_
  refine Gq.val rfl rfl rfl (Val.cast (val_fieldAddr rfl Try.underlying33 rfl Try.ty3 rfl rfl) (v' := ptr b2 0) rfl) ?_
  refine Gq.val rfl rfl rfl (val_load rfl Try.ty3 rfl rfl (cell_rec (k := 0) rfl rfl)) ?_
  refine Gq.val rfl rfl rfl (Val.cast (val_eql rfl rfl rfl) (v' := .bool false) rfl) ?_
  refine Gq.val rfl rfl rfl (val_move rfl rfl) ?_
  refine Gq.skipg rfl rfl rfl rfl rfl rfl ?_
  refine Gq.skipg rfl rfl rfl rfl rfl rfl ?_
  refine Gq.skipg rfl rfl rfl rfl rfl rfl ?_
  refine Gq.skipg rfl rfl rfl rfl rfl rfl ?_
  refine Gq.skipg rfl rfl rfl rfl rfl rfl ?_
  refine Gq.skipg rfl rfl rfl rfl rfl rfl ?_
  refine Gq.skipg rfl rfl rfl rfl rfl rfl ?_
  refine Gq.skipg rfl rfl rfl rfl rfl rfl ?_
  refine Gq.skipg rfl rfl rfl rfl rfl rfl ?_
  refine Gq.skipg rfl rfl rfl rfl rfl rfl ?_
  refine Gq.val rfl rfl rfl (val_pickF rfl rfl rfl) ?_
  refine Gq.val rfl rfl rfl (val_assign rfl rfl) ?_
  refine Gq.done ?_
  refine Gx.thenN ?_
  refine Gx.f rfl ?_
  refine Gx.seq ?_
  refine Gx.region ?_
  refine Gx.val rfl rfl rfl (Val.cast (val_fieldAddr rfl Try.underlying33 rfl Try.ty3 rfl rfl) (v' := ptr b2 0) rfl) ?_
  refine Gx.val rfl rfl rfl (val_load rfl Try.ty3 rfl rfl (cell_rec (k := 0) rfl rfl)) ?_
  refine Gx.val rfl rfl rfl (Val.cast (val_eql rfl rfl rfl) (v' := .bool false) rfl) ?_
  refine Gx.val rfl rfl rfl (val_assign rfl rfl) ?_
  refine Gx.done ?_
  refine Gx.thenN ?_
  refine Gx.f rfl ?_
  refine Gx.seq ?_
  refine Gx.region ?_
  refine Gx.val rfl rfl rfl (val_move rfl rfl) ?_
  refine Gx.val rfl rfl rfl (Val.cast (val_fieldAddr rfl Try.underlying33 rfl Try.ty3 rfl rfl) (v' := ptr b2 2) rfl) ?_
  refine Gx.val rfl rfl rfl (val_load rfl Try.ty3 rfl rfl (cell_rec (k := 0) rfl rfl)) ?_
  refine Gx.val rfl rfl rfl (val_callV (vs := [.int .i64 ((jk.val : Nat) : Int)]) (fs := []) (cs := [ptr b1 0]) rfl Try.fn15 rfl rfl (fun w H => is_any ((jk.val : Nat) : Int) (H.at_ (k := 1) rfl).rec_.1 ((H.at_ (k := 1) rfl).cell 0 rfl) (H.at_ (k := 2) rfl).rec_.1 (((H.at_ (k := 2) rfl).cell 0 rfl).trans (congrArg some hpv)))) ?_
  refine Gx.val rfl rfl rfl (val_not rfl rfl) ?_
  refine Gx.val rfl rfl rfl (val_move rfl rfl) ?_
  refine Gx.slot (t := 54) (v := .bool false) (look_boolF rfl (by rw [hjN]; rfl)) ?_
  refine Gx.valg rfl rfl rfl rfl rfl (Val.cast (val_fieldAddr rfl Try.underlying33 rfl Try.ty3 rfl rfl) (v' := ptr b2 2) rfl) ?_
  refine Gx.valg rfl rfl rfl rfl rfl (val_load rfl Try.ty3 rfl rfl (cell_rec (k := 0) rfl rfl)) ?_
  refine Gx.valg rfl rfl rfl rfl rfl (Val.cast (val_fieldAddr rfl Try.underlying33 rfl Try.ty3 rfl rfl) (v' := ptr b2 1) rfl) ?_
  refine Gx.valg rfl rfl rfl rfl rfl (val_load rfl Try.ty3 rfl rfl (cell_rec (k := 0) rfl rfl)) ?_
  refine Gx.valg rfl rfl rfl rfl rfl (val_eql rfl rfl rfl) ?_
  refine Gx.val rfl rfl rfl (val_pickF rfl rfl rfl) ?_
  refine Gx.val rfl rfl rfl (val_assign rfl rfl) ?_
  refine Gx.done ?_
  refine Gx.thenN ?_
  refine Gx.decF rfl (by omega) ?_
  refine Gx.seq ?_
  refine Gx.region ?_
  refine Gx.val rfl rfl rfl (Val.cast (val_fieldAddr rfl Try.underlying33 rfl Try.ty3 rfl rfl) (v' := ptr b2 0) rfl) ?_
  refine Gx.val rfl rfl rfl (val_load rfl Try.ty3 rfl rfl (cell_rec (k := 0) rfl rfl)) ?_
  refine Gx.val rfl rfl rfl (Val.cast (val_eql rfl rfl rfl) (v' := .bool false) rfl) ?_
  refine Gx.val rfl rfl rfl (val_assign rfl rfl) ?_
  refine Gx.done ?_
  refine Gx.thenN ?_
  refine Gx.f rfl ?_
  refine Gx.skip ?_
  refine Gx.blkN ?_
  refine Gx.thenN ?_
  refine Gx.seq ?_
  refine Gx.regionQ Try.mixed (by kernel_rfl) ?_
  refine Gq.val rfl rfl rfl (val_load rfl Try.ty38 rfl rfl (cell_rec (k := 1) rfl rfl)) ?_
  refine Gq.val rfl rfl rfl (val_nilCheck rfl rfl) ?_
  refine Gq.val rfl rfl rfl (Val.cast (val_fieldAddr rfl Try.underlying44 rfl Try.ty41 rfl rfl) (v' := ptr S 0) rfl) ?_
  refine Gq.val rfl rfl rfl (val_load rfl Try.ty41 rfl rfl (cell_rec (k := 2) rfl rfl)) ?_
  refine Gq.val rfl rfl rfl (Val.cast (val_fieldAddr rfl Try.underlying33 rfl Try.ty3 rfl rfl) (v' := ptr b2 1) rfl) ?_
  refine Gq.val rfl rfl rfl (val_load rfl Try.ty3 rfl rfl (cell_rec (k := 0) rfl rfl)) ?_
  refine Gq.val rfl rfl rfl (val_ixa rfl Try.underlying41 Try.ty46 rfl rfl (j := ik.val) (rfl) (reach_own (k := 3) rfl hp)) ?_
  refine Gq.val rfl rfl rfl (val_assign rfl rfl) ?_
  refine Gq.done ?_
  refine Gx.thenN ?_
  refine Gx.seq ?_
  refine Gx.seq ?_
  refine Gx.regionQ Try.mixed (by kernel_rfl) ?_
  refine Gq.val rfl rfl rfl (Val.cast (val_fieldAddr rfl Try.underlying33 rfl Try.ty3 rfl rfl) (v' := ptr b2 3) rfl) ?_
  refine Gq.val rfl rfl rfl (val_load rfl Try.ty3 rfl rfl (cell_rec (k := 0) rfl rfl)) ?_
  refine Gq.val rfl rfl rfl (val_lss rfl rfl rfl) ?_
  refine Gq.val rfl rfl rfl (val_move rfl rfl) ?_
  refine Gq.cases (t := 81) rfl (fun h3 => ?_) (fun h3 => ?_)
  · refine Gq.skipg rfl rfl rfl rfl rfl rfl ?_
    refine Gq.skipg rfl rfl rfl rfl rfl rfl ?_
    refine Gq.skipg rfl rfl rfl rfl rfl rfl ?_
    refine Gq.skipg rfl rfl rfl rfl rfl rfl ?_
    refine Gq.skipg rfl rfl rfl rfl rfl rfl ?_
    refine Gq.skipg rfl rfl rfl rfl rfl rfl ?_
    refine Gq.skipg rfl rfl rfl rfl rfl rfl ?_
    refine Gq.val rfl rfl rfl (val_pickT rfl rfl rfl) ?_
    refine Gq.done ?_
    refine Gx.thenN ?_
    refine Gx.t rfl ?_
    refine Gx.seq ?_
    refine Gx.region ?_
    refine Gx.val rfl rfl rfl (val_assign rfl rfl) ?_
    refine Gx.done ?_
    refine Gx.thenN ?_
    refine Gx.ret ?_
    refine Gx.thenR ?_
    refine Gx.drop 1 rfl ?_
    refine Gx.drop 0 rfl ?_
    refine Gx.front 4 rfl ?_
    refine Gx.front 4 rfl ?_
    refine Gx.front 4 rfl ?_
    refine Gx.front 4 rfl ?_
    refine Gx.front 4 rfl ?_
    refine Gx.sat (l' := [worldH S n s, R]) (fun w H => worldH.shut (s := s) (hok) H) ?_
    refine Gx.ret1 Try.results12 rfl ?_
    exact ⟨rfl, sep1 _ _⟩
  · refine Gq.valg rfl rfl rfl rfl rfl (Val.cast (val_fieldAddr rfl Try.underlying33 rfl Try.ty3 rfl rfl) (v' := ptr b2 3) rfl) ?_
    refine Gq.valg rfl rfl rfl rfl rfl (val_load rfl Try.ty3 rfl rfl (cell_rec (k := 0) rfl rfl)) ?_
    refine Gq.valg rfl rfl rfl rfl rfl (val_move rfl rfl) ?_
    refine Gq.valg rfl rfl rfl rfl rfl (val_nilCheck rfl rfl) ?_
    refine Gq.valg rfl rfl rfl rfl rfl (Val.cast (val_fieldAddr rfl Try.underlying46 rfl Try.ty3 rfl rfl) (v' := ptr (sB pv) (sO pv + ik.val * 2)) rfl) ?_
    refine Gq.valg rfl rfl rfl rfl rfl (val_load rfl Try.ty3 rfl rfl (cell_own (i := 0) (k := 3) rfl hp rfl)) ?_
    refine Gq.valg rfl rfl rfl rfl rfl (val_gtr rfl rfl rfl) ?_
    refine Gq.val rfl rfl rfl (val_pickF rfl rfl rfl) ?_
    refine Gq.done ?_
    refine Gx.thenN ?_
    refine Gx.dec rfl (fun h4 => ?_) (fun h4 => ?_)
    · refine Gx.seq ?_
      refine Gx.region ?_
      refine Gx.val rfl rfl rfl (val_assign rfl rfl) ?_
      refine Gx.done ?_
      refine Gx.thenN ?_
      refine Gx.ret ?_
      refine Gx.thenR ?_
      refine Gx.drop 1 rfl ?_
      refine Gx.drop 0 rfl ?_
      refine Gx.front 4 rfl ?_
      refine Gx.front 4 rfl ?_
      refine Gx.front 4 rfl ?_
      refine Gx.front 4 rfl ?_
      refine Gx.front 4 rfl ?_
      refine Gx.sat (l' := [worldH S n s, R]) (fun w H => worldH.shut (s := s) (hok) H) ?_
      refine Gx.ret1 Try.results12 rfl ?_
      exact ⟨rfl, sep1 _ _⟩
    · refine Gx.skip ?_
      refine Gx.thenN ?_
      refine Gx.seq ?_
      exfalso; omega

theorem step_send {W w : World} {S n : Nat} {s : SS} {R : Hp} {ik jk : Sm} {p : Pr} (hp : s.ps[ik.val]? = some p) (hn : s.ps.length ≤ 6) {nn : Int} (hnn : n = s.ps.length) (hj : jk.val < s.ps.length) (hne : jk ≠ ik) (hq : ∀ a, (s.w a).q.length ≤ 10000) (hm0 : 0 ≤ p.mo) (hm1 : p.mo ≤ 100000) (hx : ¬ (nn < 1 ∨ p.mo < nn)) (H : Sat W w (worldH S n s * R)) :
    Calls Try.prog 12 #[ptr S 0, .agg #[.int .i64 1, .int .i64 ((ik.val : Nat) : Int), .int .i64 ((jk.val : Nat) : Int), .int .i64 nn]] w (Ret W fun v l => v = .int .i64 0 ∧ sep l = worldH S n (sendS s ik.val jk.val nn).2 * R) := by
  obtain ⟨pv, mb, ks, rs, hok, H⟩ := worldH.open_ H
  obtain ⟨pa, pc, hpv⟩ := own_formM (H.at_ (k := 1) rfl)
  have hil := (List.getElem?_eq_some_iff.1 hp).1
  have hiN : isN s.ps.length ((ik.val : Nat) : Int) = true := decide_eq_true (by omega)
  have hjN : isN s.ps.length ((jk.val : Nat) : Int) = true := decide_eq_true (by omega)
  have hnv : jk.val ≠ ik.val := fun e => hne (Fin.ext e)
  obtain ⟨kk, r, hkk, hrr, hrw, hgk⟩ := hok.at_ (a := (ik, jk)) (by dsimp only; omega) (by dsimp only; omega) (Ne.symm hne)
  have hqs := row_isS hrr H
  have hrq := hq (ik, jk)
  rw [← hrw] at hrq
  refine Gx.enter (l := [Hp.rec_ S [pv, .map (some mb)], Hp.own FP 2 pv s.ps, Hp.map Try.prog 47 pairL vB mb ks, Hp.big rowH rs, R]) Try.func12 rfl Try.ntmps12 rfl (H) ?_
  refine Gx.know (m' := [(0, ptr S 0), (1, .agg #[.int .i64 1, .int .i64 ((ik.val : Nat) : Int), .int .i64 ((jk.val : Nat) : Int), .int .i64 nn])]) (.cons rfl (.cons rfl .nil)) ?_
  refine Gx.seq ?_
  refine Gx.region ?_
  refine Gx.eff rfl rfl rfl (eff_box rfl rfl (vs := [ptr S 0]) rfl) ?_
  rintro _ _ ⟨b1, rfl, rfl⟩
  refine Gx.eff rfl rfl rfl (eff_box rfl rfl (vs := [.int .i64 1, .int .i64 ((ik.val : Nat) : Int), .int .i64 ((jk.val : Nat) : Int), .int .i64 nn]) rfl) ?_
  rintro _ _ ⟨b2, rfl, rfl⟩
  refine Gx.val rfl rfl rfl (val_assign rfl rfl) ?_
  refine Gx.done ?_
  refine Gx.thenN ?_
  refine Gx.seq ?_
  refine Gx.region ?_
  refine Gx.val rfl rfl rfl (Val.cast (val_makeFunc (us := []) (vs := [ptr b1 0]) rfl rfl rfl) (v' := .func (.func 15) #[] #[ptr b1 0]) rfl) ?_
  refine Gx.val rfl rfl rfl (val_assign rfl rfl) ?_
  refine Gx.done ?_
  refine Gx.thenN ?_
  refine Gx.seq ?_
  refine Gx.block ?_
  refine Gx.seq ?_
  refine Gx.region ?_
  refine Gx.val rfl rfl rfl (Val.cast (val_fieldAddr rfl Try.underlying33 rfl Try.ty3 rfl rfl) (v' := ptr b2 0) rfl) ?_
  refine Gx.val rfl rfl rfl (val_load rfl Try.ty3 rfl rfl (cell_rec (k := 0) rfl rfl)) ?_
  refine Gx.val rfl rfl rfl (Val.cast (val_lss rfl rfl rfl) (v' := .bool false) rfl) ?_
  refine Gx.val rfl rfl rfl (val_move rfl rfl) ?_
  refine Gx.valg rfl rfl rfl rfl rfl (Val.cast (val_fieldAddr rfl Try.underlying33 rfl Try.ty3 rfl rfl) (v' := ptr b2 0) rfl) ?_
  refine Gx.valg rfl rfl rfl rfl rfl (val_load rfl Try.ty3 rfl rfl (cell_rec (k := 0) rfl rfl)) ?_
  refine Gx.valg rfl rfl rfl rfl rfl (Val.cast (val_gtr rfl rfl rfl) (v' := .bool false) rfl) ?_
  refine Gx.val rfl rfl rfl (val_pickF rfl rfl rfl) ?_
  refine Gx.val rfl rfl rfl (val_assign rfl rfl) ?_
  refine Gx.done ?_
  refine Gx.thenN ?_
  refine Gx.f rfl ?_
  refine Gx.seq ?_
  refine Gx.region ?_
  refine Gx.val rfl rfl rfl (val_move rfl rfl) ?_
  refine Gx.val rfl rfl rfl (Val.cast (val_fieldAddr rfl Try.underlying33 rfl Try.ty3 rfl rfl) (v' := ptr b2 1) rfl) ?_
  refine Gx.val rfl rfl rfl (val_load rfl Try.ty3 rfl rfl (cell_rec (k := 0) rfl rfl)) ?_
  refine Gx.val rfl rfl rfl (val_callV (vs := [.int .i64 ((ik.val : Nat) : Int)]) (fs := []) (cs := [ptr b1 0]) rfl Try.fn15 rfl rfl (fun w H => is_any ((ik.val : Nat) : Int) (H.at_ (k := 1) rfl).rec_.1 ((H.at_ (k := 1) rfl).cell 0 rfl) (H.at_ (k := 2) rfl).rec_.1 (((H.at_ (k := 2) rfl).cell 0 rfl).trans (congrArg some hpv)))) ?_
  refine Gx.val rfl rfl rfl (val_not rfl rfl) ?_
  refine Gx.val rfl rfl rfl (val_assign rfl rfl) ?_
  refine Gx.done ?_
  refine Gx.thenN ?_
  refine Gx.boolF rfl (by rw [hiN]; rfl) ?_
  refine Gx.seq ?_
  refine Gx.regionQ Try.mixed (by kernel_rfl) ?_
  refine Gq.val rfl rfl rfl (Val.cast (val_fieldAddr rfl Try.underlying33 rfl Try.ty3 rfl rfl) (v' := ptr b2 0) rfl) ?_
  refine Gq.val rfl rfl rfl (val_load rfl Try.ty3 rfl rfl (cell_rec (k := 0) rfl rfl)) ?_
  refine Gq.val rfl rfl rfl (Val.cast (val_eql rfl rfl rfl) (v' := .bool false) rfl) ?_
  refine Gq.val rfl rfl rfl (val_move rfl rfl) ?_
  refine Gq.skipg rfl rfl rfl rfl rfl rfl ?_
  refine Gq.skipg rfl rfl rfl rfl rfl rfl ?_
  refine Gq.skipg rfl rfl rfl rfl rfl rfl ?_
  refine Gq.skipg rfl rfl rfl rfl rfl rfl ?_
  refine Gq.skipg rfl rfl rfl rfl rfl rfl ?_
  refine Gq.skipg rfl rfl rfl rfl rfl rfl ?_
  refine Gq.skipg rfl rfl rfl rfl rfl rfl ?_
  refine Gq.skipg rfl rfl rfl rfl rfl rfl ?_
  refine Gq.skipg rfl rfl rfl rfl rfl rfl ?_
  refine Gq.skipg rfl rfl rfl rfl rfl rfl ?_
  refine Gq.val rfl rfl rfl (val_pickF rfl rfl rfl) ?_
  refine Gq.val rfl rfl rfl (val_assign rfl rfl) ?_
  refine Gq.done ?_
  refine Gx.thenN ?_
  refine Gx.f rfl ?_
  refine Gx.seq ?_
  refine Gx.region ?_
  refine Gx.val rfl rfl rfl (Val.cast (val_fieldAddr rfl Try.underlying33 rfl Try.ty3 rfl rfl) (v' := ptr b2 0) rfl) ?_
  refine Gx.val rfl rfl rfl (val_load rfl Try.ty3 rfl rfl (cell_rec (k := 0) rfl rfl)) ?_
  refine Gx.val rfl rfl rfl (Val.cast (val_eql rfl rfl rfl) (v' := .bool false) rfl) ?_
  refine Gx.val rfl rfl rfl (val_assign rfl rfl) ?_
  refine Gx.done ?_
  refine Gx.thenN ?_
  refine Gx.f rfl ?_
  refine Gx.seq ?_
  refine Gx.region ?_
  refine Gx.val rfl rfl rfl (val_move rfl rfl) ?_
  refine Gx.val rfl rfl rfl (Val.cast (val_fieldAddr rfl Try.underlying33 rfl Try.ty3 rfl rfl) (v' := ptr b2 2) rfl) ?_
  refine Gx.val rfl rfl rfl (val_load rfl Try.ty3 rfl rfl (cell_rec (k := 0) rfl rfl)) ?_
  refine Gx.val rfl rfl rfl (val_callV (vs := [.int .i64 ((jk.val : Nat) : Int)]) (fs := []) (cs := [ptr b1 0]) rfl Try.fn15 rfl rfl (fun w H => is_any ((jk.val : Nat) : Int) (H.at_ (k := 1) rfl).rec_.1 ((H.at_ (k := 1) rfl).cell 0 rfl) (H.at_ (k := 2) rfl).rec_.1 (((H.at_ (k := 2) rfl).cell 0 rfl).trans (congrArg some hpv)))) ?_
  refine Gx.val rfl rfl rfl (val_not rfl rfl) ?_
  refine Gx.val rfl rfl rfl (val_move rfl rfl) ?_
  refine Gx.slot (t := 54) (v := .bool false) (look_boolF rfl (by rw [hjN]; rfl)) ?_
  refine Gx.valg rfl rfl rfl rfl rfl (Val.cast (val_fieldAddr rfl Try.underlying33 rfl Try.ty3 rfl rfl) (v' := ptr b2 2) rfl) ?_
  refine Gx.valg rfl rfl rfl rfl rfl (val_load rfl Try.ty3 rfl rfl (cell_rec (k := 0) rfl rfl)) ?_
  refine Gx.valg rfl rfl rfl rfl rfl (Val.cast (val_fieldAddr rfl Try.underlying33 rfl Try.ty3 rfl rfl) (v' := ptr b2 1) rfl) ?_
  refine Gx.valg rfl rfl rfl rfl rfl (val_load rfl Try.ty3 rfl rfl (cell_rec (k := 0) rfl rfl)) ?_
  refine Gx.valg rfl rfl rfl rfl rfl (val_eql rfl rfl rfl) ?_
  refine Gx.val rfl rfl rfl (val_pickF rfl rfl rfl) ?_
  refine Gx.val rfl rfl rfl (val_assign rfl rfl) ?_
  refine Gx.done ?_
  refine Gx.thenN ?_
  refine Gx.decF rfl (by omega) ?_
  refine Gx.seq ?_
  refine Gx.region ?_
  refine Gx.val rfl rfl rfl (Val.cast (val_fieldAddr rfl Try.underlying33 rfl Try.ty3 rfl rfl) (v' := ptr b2 0) rfl) ?_
  refine Gx.val rfl rfl rfl (val_load rfl Try.ty3 rfl rfl (cell_rec (k := 0) rfl rfl)) ?_
  refine Gx.val rfl rfl rfl (Val.cast (val_eql rfl rfl rfl) (v' := .bool false) rfl) ?_
  refine Gx.val rfl rfl rfl (val_assign rfl rfl) ?_
  refine Gx.done ?_
  refine Gx.thenN ?_
  refine Gx.f rfl ?_
  refine Gx.skip ?_
  refine Gx.blkN ?_
  refine Gx.thenN ?_
  refine Gx.seq ?_
  refine Gx.regionQ Try.mixed (by kernel_rfl) ?_
  refine Gq.val rfl rfl rfl (val_load rfl Try.ty38 rfl rfl (cell_rec (k := 1) rfl rfl)) ?_
  refine Gq.val rfl rfl rfl (val_nilCheck rfl rfl) ?_
  refine Gq.val rfl rfl rfl (Val.cast (val_fieldAddr rfl Try.underlying44 rfl Try.ty41 rfl rfl) (v' := ptr S 0) rfl) ?_
  refine Gq.val rfl rfl rfl (val_load rfl Try.ty41 rfl rfl (cell_rec (k := 2) rfl rfl)) ?_
  refine Gq.val rfl rfl rfl (Val.cast (val_fieldAddr rfl Try.underlying33 rfl Try.ty3 rfl rfl) (v' := ptr b2 1) rfl) ?_
  refine Gq.val rfl rfl rfl (val_load rfl Try.ty3 rfl rfl (cell_rec (k := 0) rfl rfl)) ?_
  refine Gq.val rfl rfl rfl (val_ixa rfl Try.underlying41 Try.ty46 rfl rfl (j := ik.val) (rfl) (reach_own (k := 3) rfl hp)) ?_
  refine Gq.val rfl rfl rfl (val_assign rfl rfl) ?_
  refine Gq.done ?_
  refine Gx.thenN ?_
  refine Gx.seq ?_
  refine Gx.seq ?_
  refine Gx.regionQ Try.mixed (by kernel_rfl) ?_
  refine Gq.val rfl rfl rfl (Val.cast (val_fieldAddr rfl Try.underlying33 rfl Try.ty3 rfl rfl) (v' := ptr b2 3) rfl) ?_
  refine Gq.val rfl rfl rfl (val_load rfl Try.ty3 rfl rfl (cell_rec (k := 0) rfl rfl)) ?_
  refine Gq.val rfl rfl rfl (val_lss rfl rfl rfl) ?_
  refine Gq.val rfl rfl rfl (val_move rfl rfl) ?_
  refine Gq.slot (t := 81) (v := .bool false) (look_decF rfl (by omega)) ?_
  refine Gq.valg rfl rfl rfl rfl rfl (Val.cast (val_fieldAddr rfl Try.underlying33 rfl Try.ty3 rfl rfl) (v' := ptr b2 3) rfl) ?_
  refine Gq.valg rfl rfl rfl rfl rfl (val_load rfl Try.ty3 rfl rfl (cell_rec (k := 0) rfl rfl)) ?_
  refine Gq.valg rfl rfl rfl rfl rfl (val_move rfl rfl) ?_
  refine Gq.valg rfl rfl rfl rfl rfl (val_nilCheck rfl rfl) ?_
  refine Gq.valg rfl rfl rfl rfl rfl (Val.cast (val_fieldAddr rfl Try.underlying46 rfl Try.ty3 rfl rfl) (v' := ptr (sB pv) (sO pv + ik.val * 2)) rfl) ?_
  refine Gq.valg rfl rfl rfl rfl rfl (val_load rfl Try.ty3 rfl rfl (cell_own (i := 0) (k := 3) rfl hp rfl)) ?_
  refine Gq.valg rfl rfl rfl rfl rfl (val_gtr rfl rfl rfl) ?_
  refine Gq.val rfl rfl rfl (val_pickF rfl rfl rfl) ?_
  refine Gq.done ?_
  refine Gx.thenN ?_
  refine Gx.decF rfl (by omega) ?_
  refine Gx.skip ?_
  refine Gx.thenN ?_
  refine Gx.seq ?_
  refine Gx.regionO (fun j => false) 9 [0, 1, 2, 3, 4, 5, 6, 7, 8] (fun _ => [Hp.rec_ b2 [.int .i64 1, .int .i64 ((ik.val : Nat) : Int), .int .i64 ((jk.val : Nat) : Int), .int .i64 nn], Hp.rec_ b1 [ptr S 0], Hp.rec_ S [pv, .map (some mb)], Hp.own FP 2 pv s.ps, Hp.map Try.prog 47 pairL vB mb ks, Hp.big rowH rs, R]) Try.mixed (by kernel_rfl) rfl ?_
  refine Gw.val rfl rfl rfl rfl rfl (fun us => val_move rfl rfl) ?_
  refine Gw.val rfl rfl rfl rfl rfl (fun us => val_nilCheck rfl rfl) ?_
  refine Gw.val rfl rfl rfl rfl rfl (fun us => Val.cast (val_fieldAddr rfl Try.underlying46 rfl Try.ty3 rfl rfl) (v' := ptr (sB pv) (sO pv + ik.val * 2)) rfl) ?_
  refine Gw.val0 rfl rfl rfl (by kernel_rfl) rfl rfl (val_load rfl Try.ty3 rfl rfl (cell_own (i := 0) (k := 3) rfl hp rfl)) ?_
  refine Gw.val rfl rfl rfl rfl rfl (fun us => Val.cast (val_fieldAddr rfl Try.underlying33 rfl Try.ty3 rfl rfl) (v' := ptr b2 3) rfl) ?_
  refine Gw.val0 rfl rfl rfl (by kernel_rfl) rfl rfl (val_load rfl Try.ty3 rfl rfl (cell_rec (k := 0) rfl rfl)) ?_
  refine Gw.val rfl rfl rfl rfl rfl (fun us => val_sub rfl rfl rfl (r := (p.mo - nn)) (w64 rfl (by omega))) ?_
  refine Gw.val rfl rfl rfl rfl rfl (fun us => val_nilCheck rfl rfl) ?_
  refine Gw.val rfl rfl rfl rfl rfl (fun us => Val.cast (val_fieldAddr rfl Try.underlying46 rfl Try.ty3 rfl rfl) (v' := ptr (sB pv) (sO pv + ik.val * 2)) rfl) ?_
  refine Gw.done ?_
  refine Gx.norm (l' := [Hp.rec_ b2 [.int .i64 1, .int .i64 ((ik.val : Nat) : Int), .int .i64 ((jk.val : Nat) : Int), .int .i64 nn], Hp.rec_ b1 [ptr S 0], Hp.rec_ S [pv, .map (some mb)], Hp.own FP 2 pv s.ps, Hp.map Try.prog 47 pairL vB mb ks, Hp.big rowH rs, R]) rfl ?_
  refine Gx.eff0 rfl rfl (eff_storeEl (i := 0) (e' := (⟨(p.mo - nn), p.ow⟩ : Pr)) rfl Try.ty3 rfl rfl rfl rfl (k := 3) rfl FP_len hp (by decide) (rfl) (l' := [Hp.rec_ b2 [.int .i64 1, .int .i64 ((ik.val : Nat) : Int), .int .i64 ((jk.val : Nat) : Int), .int .i64 nn], Hp.rec_ b1 [ptr S 0], Hp.rec_ S [pv, .map (some mb)], Hp.own FP 2 pv ((s.ps).set ik.val (⟨(p.mo - nn), p.ow⟩ : Pr)), Hp.map Try.prog 47 pairL vB mb ks, Hp.big rowH rs, R]) rfl) ?_
  rintro _ _ rfl
  refine Gx.done ?_
  refine Gx.thenN ?_
  refine Gx.seq ?_
  refine Gx.regionQ Try.mixed (by kernel_rfl) ?_
  refine Gq.val rfl rfl rfl (val_load rfl Try.ty38 rfl rfl (cell_rec (k := 1) rfl rfl)) ?_
  refine Gq.val rfl rfl rfl (val_nilCheck rfl rfl) ?_
  refine Gq.val rfl rfl rfl (Val.cast (val_fieldAddr rfl Try.underlying44 rfl Try.ty42 rfl rfl) (v' := ptr S 1) rfl) ?_
  refine Gq.val rfl rfl rfl (val_load rfl Try.ty42 rfl rfl (cell_rec (k := 2) rfl rfl)) ?_
  refine Gq.val rfl rfl rfl (Val.cast (val_fieldAddr rfl Try.underlying33 rfl Try.ty3 rfl rfl) (v' := ptr b2 1) rfl) ?_
  refine Gq.val rfl rfl rfl (val_load rfl Try.ty3 rfl rfl (cell_rec (k := 0) rfl rfl)) ?_
  refine Gq.val rfl rfl rfl (Val.cast (val_fieldAddr rfl Try.underlying33 rfl Try.ty3 rfl rfl) (v' := ptr b2 2) rfl) ?_
  refine Gq.val rfl rfl rfl (val_load rfl Try.ty3 rfl rfl (cell_rec (k := 0) rfl rfl)) ?_
  refine Gq.val rfl rfl rfl (val_build rfl (qs := [(0, .int .i64 ((ik.val : Nat) : Int)), (1, .int .i64 ((jk.val : Nat) : Int))]) rfl rfl (fun w => by go_simp) (v := .agg #[.int .i64 ((ik.val : Nat) : Int), .int .i64 ((jk.val : Nat) : Int)])) ?_
  refine Gq.val rfl rfl rfl (val_lookup1 rfl Try.underlying42 Try.kL Try.ty48 rfl rfl (i := (ik, jk)) (trivial) (k := 4) rfl (r := ptr r.b 0) (by rw [hgk]; rfl)) ?_
  refine Gq.val rfl rfl rfl (val_assign rfl rfl) ?_
  refine Gq.done ?_
  refine Gx.thenN ?_
  refine Gx.seq ?_
  refine Gx.focus (n := 5) (k := kk) rfl hrr (fun R3 hf4 hg5 => ?_)
  refine Gx.norm (l' := [Hp.rec_ b2 [.int .i64 1, .int .i64 ((ik.val : Nat) : Int), .int .i64 ((jk.val : Nat) : Int), .int .i64 nn], Hp.rec_ b1 [ptr S 0], Hp.rec_ S [pv, .map (some mb)], Hp.own FP 2 pv ((s.ps).set ik.val (⟨(p.mo - nn), p.ow⟩ : Pr)), Hp.map Try.prog 47 pairL vB mb ks, rowH r, R, R3]) rfl ?_
  refine Gx.cleave 5 (p := Hp.rec_ r.b [r.qv, r.nv, .bool r.w.cl]) (q := Hp.own FI 1 r.qv r.w.q * Hp.own FI 1 r.nv r.w.nt) rfl rfl rfl ?_
  refine Gx.cleave 1 (p := Hp.own FI 1 r.qv r.w.q) (q := Hp.own FI 1 r.nv r.w.nt) rfl rfl rfl ?_
  refine Gx.norm (l' := [Hp.own FI 1 r.qv r.w.q, Hp.own FI 1 r.nv r.w.nt, Hp.rec_ r.b [r.qv, r.nv, .bool r.w.cl], Hp.rec_ b2 [.int .i64 1, .int .i64 ((ik.val : Nat) : Int), .int .i64 ((jk.val : Nat) : Int), .int .i64 nn], Hp.rec_ b1 [ptr S 0], Hp.rec_ S [pv, .map (some mb)], Hp.own FP 2 pv ((s.ps).set ik.val (⟨(p.mo - nn), p.ow⟩ : Pr)), Hp.map Try.prog 47 pairL vB mb ks, R, R3]) rfl ?_
  refine Gx.regionO (fun j => j == 7 || j == 8) 11 [0, 1, 2, 3, 4, 5, 6, 7, 8, 9, 10] (fun us => match us with | [] => [Hp.own FI 1 r.qv r.w.q, Hp.own FI 1 r.nv r.w.nt, Hp.rec_ r.b [r.qv, r.nv, .bool r.w.cl], Hp.rec_ b2 [.int .i64 1, .int .i64 ((ik.val : Nat) : Int), .int .i64 ((jk.val : Nat) : Int), .int .i64 nn], Hp.rec_ b1 [ptr S 0], Hp.rec_ S [pv, .map (some mb)], Hp.own FP 2 pv ((s.ps).set ik.val (⟨(p.mo - nn), p.ow⟩ : Pr)), Hp.map Try.prog 47 pairL vB mb ks, R, R3] | [u1] => [Hp.rec_ (sB u1) [.int .i64 nn], Hp.own FI 1 r.qv r.w.q, Hp.own FI 1 r.nv r.w.nt, Hp.rec_ r.b [r.qv, r.nv, .bool r.w.cl], Hp.rec_ b2 [.int .i64 1, .int .i64 ((ik.val : Nat) : Int), .int .i64 ((jk.val : Nat) : Int), .int .i64 nn], Hp.rec_ b1 [ptr S 0], Hp.rec_ S [pv, .map (some mb)], Hp.own FP 2 pv ((s.ps).set ik.val (⟨(p.mo - nn), p.ow⟩ : Pr)), Hp.map Try.prog 47 pairL vB mb ks, R, R3] | u1 :: u2 :: _ => [Hp.own FI 1 u2 (r.w.q ++ [nn]), Hp.own FI 1 r.nv r.w.nt, Hp.rec_ r.b [r.qv, r.nv, .bool r.w.cl], Hp.rec_ b2 [.int .i64 1, .int .i64 ((ik.val : Nat) : Int), .int .i64 ((jk.val : Nat) : Int), .int .i64 nn], Hp.rec_ b1 [ptr S 0], Hp.rec_ S [pv, .map (some mb)], Hp.own FP 2 pv ((s.ps).set ik.val (⟨(p.mo - nn), p.ow⟩ : Pr)), Hp.map Try.prog 47 pairL vB mb ks, R, R3]) Try.mixed (by kernel_rfl) rfl ?_
  refine Gw.val rfl rfl rfl rfl rfl (fun us => val_move rfl rfl) ?_
  refine Gw.val rfl rfl rfl rfl rfl (fun us => val_move rfl rfl) ?_
  refine Gw.val rfl rfl rfl rfl rfl (fun us => val_nilCheck rfl rfl) ?_
  refine Gw.val rfl rfl rfl rfl rfl (fun us => Val.cast (val_fieldAddr rfl Try.underlying50 rfl Try.ty22 rfl rfl) (v' := ptr r.b 0) rfl) ?_
  refine Gw.val rfl rfl rfl rfl rfl (fun us => match us with | [] => val_load rfl Try.ty22 rfl rfl (cell_rec (k := 2) rfl rfl) | [u1] => val_load rfl Try.ty22 rfl rfl (cell_rec (k := 3) rfl rfl) | u1 :: u2 :: _ => val_load rfl Try.ty22 rfl rfl (cell_rec (k := 2) rfl rfl)) ?_
  refine Gw.val rfl rfl rfl rfl rfl (fun us => Val.cast (val_fieldAddr rfl Try.underlying33 rfl Try.ty3 rfl rfl) (v' := ptr b2 3) rfl) ?_
  refine Gw.val rfl rfl rfl rfl rfl (fun us => match us with | [] => val_load rfl Try.ty3 rfl rfl (cell_rec (k := 3) rfl rfl) | [u1] => val_load rfl Try.ty3 rfl rfl (cell_rec (k := 4) rfl rfl) | u1 :: u2 :: _ => val_load rfl Try.ty3 rfl rfl (cell_rec (k := 3) rfl rfl)) ?_
  refine Gw.chg rfl rfl rfl rfl rfl (fun v => ∃ b6, v = .slice (some ⟨b6, 0, none⟩) 1 1) (Eff.mono (eff_buildSlice rfl (qs := [(0, .int .i64 nn)]) rfl rfl (cs := #[.int .i64 nn]) (vs := [.int .i64 nn]) (E := 3) rfl (fun w => by first | (go_simp; done) | (go_simp; rfl))) (by rintro _ _ ⟨b6, rfl, rfl⟩; exact ⟨⟨b6, rfl⟩, rfl⟩)) ?_
  rintro _ ⟨b6, rfl⟩
  refine Gw.chg rfl rfl rfl rfl rfl IsS (Eff.mono (eff_push (r := nn) rfl Try.eI FI_len FI_one rfl rfl (k := 0) rfl rfl (k' := 0) rfl (by omega) (by omega)) (fun _ _ h => ⟨h.1, congrArg sep h.2⟩)) ?_
  intro v7 hiv7
  refine Gw.val rfl rfl rfl rfl rfl (fun us => val_nilCheck rfl rfl) ?_
  refine Gw.val rfl rfl rfl rfl rfl (fun us => Val.cast (val_fieldAddr rfl Try.underlying50 rfl Try.ty22 rfl rfl) (v' := ptr r.b 0) rfl) ?_
  refine Gw.done ?_
  refine Gx.norm (l' := [Hp.own FI 1 v7 (r.w.q ++ [nn]), Hp.own FI 1 r.nv r.w.nt, Hp.rec_ r.b [r.qv, r.nv, .bool r.w.cl], Hp.rec_ b2 [.int .i64 1, .int .i64 ((ik.val : Nat) : Int), .int .i64 ((jk.val : Nat) : Int), .int .i64 nn], Hp.rec_ b1 [ptr S 0], Hp.rec_ S [pv, .map (some mb)], Hp.own FP 2 pv ((s.ps).set ik.val (⟨(p.mo - nn), p.ow⟩ : Pr)), Hp.map Try.prog 47 pairL vB mb ks, R, R3]) rfl ?_
  refine Gx.eff0 rfl rfl (eff_store rfl Try.ty22 rfl rfl (us := [v7]) hiv7.cellsL rfl hiv7.all (k := 2) rfl (rfl) (vs' := [v7, r.nv, .bool r.w.cl]) (rfl) (l' := [Hp.own FI 1 v7 (r.w.q ++ [nn]), Hp.own FI 1 r.nv r.w.nt, Hp.rec_ r.b [v7, r.nv, .bool r.w.cl], Hp.rec_ b2 [.int .i64 1, .int .i64 ((ik.val : Nat) : Int), .int .i64 ((jk.val : Nat) : Int), .int .i64 nn], Hp.rec_ b1 [ptr S 0], Hp.rec_ S [pv, .map (some mb)], Hp.own FP 2 pv ((s.ps).set ik.val (⟨(p.mo - nn), p.ow⟩ : Pr)), Hp.map Try.prog 47 pairL vB mb ks, R, R3]) rfl) ?_
  rintro _ _ rfl
  refine Gx.done ?_
  refine Gx.thenN ?_
  refine Gx.seq ?_
  refine Gx.region ?_
  refine Gx.val rfl rfl rfl (val_assign rfl rfl) ?_
  refine Gx.done ?_
  refine Gx.thenN ?_
  refine Gx.ret ?_
  refine Gx.front 9 rfl ?_
  refine Gx.front 2 rfl ?_
  refine Gx.front 2 rfl ?_
  refine Gx.front 3 rfl ?_
  refine Gx.sepEq (l' := [Hp.big rowH (rs.set kk (⟨r.b, v7, r.nv, ⟨(r.w.q ++ [nn]), r.w.nt, r.w.cl⟩⟩ : Rm)), Hp.rec_ b2 [.int .i64 1, .int .i64 ((ik.val : Nat) : Int), .int .i64 ((jk.val : Nat) : Int), .int .i64 nn], Hp.rec_ b1 [ptr S 0], Hp.rec_ S [pv, .map (some mb)], Hp.own FP 2 pv ((s.ps).set ik.val (⟨(p.mo - nn), p.ow⟩ : Pr)), Hp.map Try.prog 47 pairL vB mb ks, R]) (by show Hp.rec_ r.b [v7, r.nv, .bool r.w.cl] * (Hp.own FI 1 v7 (r.w.q ++ [nn]) * (Hp.own FI 1 r.nv r.w.nt * (R3 * _))) = Hp.big rowH (rs.set kk (⟨r.b, v7, r.nv, ⟨(r.w.q ++ [nn]), r.w.nt, r.w.cl⟩⟩ : Rm)) * _; rw [(hg5 (⟨r.b, v7, r.nv, ⟨(r.w.q ++ [nn]), r.w.nt, r.w.cl⟩⟩ : Rm))]; show _ = (Hp.rec_ r.b [v7, r.nv, .bool r.w.cl] * (Hp.own FI 1 v7 (r.w.q ++ [nn]) * Hp.own FI 1 r.nv r.w.nt) * R3) * _; simp only [Hp.mul_assoc] <;> rfl) ?_
  have hok3 : ROk n ks (rs.set kk (⟨r.b, v7, r.nv, ⟨(r.w.q ++ [nn]), r.w.nt, r.w.cl⟩⟩ : Rm)) (⟨(s.ps).set ik.val (⟨(p.mo - nn), p.ow⟩ : Pr), upW s.w (ik, jk) ⟨(r.w.q ++ [nn]), r.w.nt, r.w.cl⟩⟩ : SS).w := hok.set hkk hrr rfl
  refine Gx.drop 2 rfl ?_
  refine Gx.drop 1 rfl ?_
  refine Gx.front 4 rfl ?_
  refine Gx.front 1 rfl ?_
  refine Gx.front 4 rfl ?_
  refine Gx.front 4 rfl ?_
  refine Gx.front 4 rfl ?_
  refine Gx.sat (l' := [worldH S n (⟨(s.ps).set ik.val (⟨(p.mo - nn), p.ow⟩ : Pr), upW s.w (ik, jk) ⟨(r.w.q ++ [nn]), r.w.nt, r.w.cl⟩⟩ : SS), R]) (fun w H => worldH.shut (s := (⟨(s.ps).set ik.val (⟨(p.mo - nn), p.ow⟩ : Pr), upW s.w (ik, jk) ⟨(r.w.q ++ [nn]), r.w.nt, r.w.cl⟩⟩ : SS)) (hok3) H) ?_
  refine Gx.ret1 Try.results12 rfl ?_
  refine ⟨rfl, ?_⟩
  rw [sep1]
  unfold sendS
  rw [smN_self, smN_self, hp]
  dsimp only
  rw [if_neg (by omega), ← hrw]

end Go.Proofs.Ytanipkddfngnnaa
