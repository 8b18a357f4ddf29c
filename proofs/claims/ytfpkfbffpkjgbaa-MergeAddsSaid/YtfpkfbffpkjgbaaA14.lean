/- A script played. The walk. No condition. -/
import Derived.Test.YtfpkfbffpkjgbaaA13
namespace Go.Proofs.Ytfpkfbffpkjgbaa
open Go.RowKit
set_option linter.unusedVariables false
set_option linter.unusedSimpArgs false
set_option maxRecDepth 100000

abbrev FY (y : Sy) : List Value := [.int .i64 y.kind, .int .i64 y.who, .int .i64 y.frm, .int .i64 y.item, .int .i64 y.n]
theorem FY_len (c : Sy) : (FY c).length = 5 := rfl
theorem FY_one (p : Sy) (u : Value) (h : u ∈ FY p) : u.oneCell' = true := by simp [FY] at h; rcases h with rfl | rfl | rfl | rfl | rfl <;> rfl
theorem Try.eY : Elem Try.prog 34 42 (.agg #[.int .i64 0, .int .i64 0, .int .i64 0, .int .i64 0, .int .i64 0]) 5 40 := ⟨Try.underlying34, by kernel_rfl, rfl, by decide⟩
abbrev FE (x : Int) : List Value := [.int .i64 x]
theorem FE_len (x : Int) : (FE x).length = 1 := rfl
theorem FE_one (p : Int) (u : Value) (h : u ∈ FE p) : u.oneCell' = true := by simp [FE] at h; subst h; rfl
theorem Try.eE : Elem Try.prog 36 28 (.int .i64 0) 1 8 := ⟨Try.underlying36, by kernel_rfl, rfl, by decide⟩
def zv : Sv := ⟨none, 0, 0⟩
def zc : Cm := ⟨⟨none, 0, 0⟩, ⟨none, 0, 0⟩, ⟨none, 0, 0⟩, cp0⟩
theorem big_zc {W w : World} : ∀ (n : Nat) {R : Hp}, Sat W w R → Sat W w (Hp.big rowsH (List.replicate n zc) * R)
  | 0, R, H => H.cast (show R = 1 * R from (Hp.one_mul R).symm)
  | n + 1, R, H => by
    have h1 := (((big_zc n H).nil FD 3).nil FD 3).nil FI 1
    refine h1.cast ?_
    show _ = (rowsH zc * Hp.big rowsH (List.replicate n zc)) * R
    unfold rowsH pH qH rH
    show (Hp.own FI 1 (.slice none 0 0) [] * (Hp.own FD 3 (.slice none 0 0) [] * (Hp.own FD 3 (.slice none 0 0) [] * (_ * R)))) = ((Hp.own FI 1 (.slice none 0 0) [] * (Hp.own FD 3 (.slice none 0 0) [] * Hp.own FD 3 (.slice none 0 0) [])) * _) * R
    ac_rfl
theorem big_swap {W w : World} {ms : List Cm} {i : Nat} {m m' : Cm} {X R : Hp} (hm : ms[i]? = some m) (hin : ∀ (W w : World) (R : Hp), Sat W w (rowsH m * (X * R)) → Sat W w (rowsH m' * R)) (H : Sat W w (Hp.big rowsH ms * (X * R))) : Sat W w (Hp.big rowsH (ms.set i m') * R) := by
  obtain ⟨R1, h1, h2⟩ := Hp.big_focus rowsH ms i m hm
  rw [h1] at H
  rw [h2 m', Hp.mul_assoc]
  exact hin W w _ (H.cast (by ac_rfl))
theorem map_set_same {ms : List Cm} {i : Nat} {m m' : Cm} (hm : ms[i]? = some m) (he : m'.c = m.c) : (ms.set i m').map Cm.c = ms.map Cm.c := by
  refine List.ext_getElem? fun j => ?_
  rw [List.getElem?_map, List.getElem?_map]
  by_cases e : i = j
  · subst e; rw [List.getElem?_set_self (List.getElem?_eq_some_iff.1 hm).1, hm]; simp [he]
  · rw [List.getElem?_set_ne e]
theorem map_setC (ms : List Cm) (i : Nat) (m' : Cm) : (ms.set i m').map Cm.c = (ms.map Cm.c).set i m'.c := List.map_set ..
section
variable {n : Nat} {s : List Cp} {x : Sy} {c : Cp} {i : Nat}
theorem stepM_wrong (h : ¬ wrongC n x = 0) : stepM n s x = (wrongC n x, s) := if_neg h
theorem stepM_ok (h : wrongC n x = 0) (hi : x.who = (i : Int)) (hs : s[i]? = some c) (h0 : (chg s c i x).1 = 0) : stepM n s x = (0, s.set i (chg s c i x).2) := by
  have e : x.who.toNat = i := by omega
  unfold stepM; rw [if_pos h, e, hs]; dsimp only; rw [if_pos h0]
theorem stepM_no (h : wrongC n x = 0) (hi : x.who = (i : Int)) (hs : s[i]? = some c) (h0 : ¬ (chg s c i x).1 = 0) : stepM n s x = ((chg s c i x).1, s) := by
  have e : x.who.toNat = i := by omega
  unfold stepM; rw [if_pos h, e, hs]; dsimp only; rw [if_neg h0]
end
theorem own_rows {ms : List Cm} {n : Nat} {K : Int} (h : BdM n K (ms.map Cm.c)) (hn : n ≤ 6) : ∀ m ∈ ms, m.c.cn.length ≤ 1000 ∧ m.c.ad.length ≤ 1000 ∧ m.c.go.length ≤ 1000 := fun m hm => by
  have := h.all _ (List.mem_map_of_mem hm)
  have h1 := this.cn; have h2 := this.al; have h3 := this.gl
  omega
theorem own_any {W : World} {ax1 ax2 ax3 : Option Addr} {nx1 nx2 nx3 cx1 cx2 cx3 : Nat} {s : Sp} {xc : List Int} {xa xg : List Dt} (hxc : SlS FI 1 W (.slice ax1 nx1 cx1) xc) (hxa : SlS FD 3 W (.slice ax2 nx2 cx2) xa) (hxg : SlS FD 3 W (.slice ax3 nx3 cx3) xg) (l1 : xc.length ≤ 1000) (l2 : xa.length ≤ 1000) (l3 : xg.length ≤ 1000) :
    Calls Try.prog 24 #[.agg #[.slice ax1 nx1 cx1, .int .i64 s.n, .int .i64 s.who, .int .i64 s.val, .slice ax2 nx2 cx2, .slice ax3 nx3 cx3]] W (Ret W fun u l9 => ∃ (p q r : Sv), u = .agg #[.slice p.a p.n p.c, .int .i64 s.n, .int .i64 s.who, .int .i64 s.val, .slice q.a q.n q.c, .slice r.a r.n r.c] ∧ l9 = [Hp.own FI 1 (.slice p.a p.n p.c) xc, Hp.own FD 3 (.slice q.a q.n q.c) xa, Hp.own FD 3 (.slice r.a r.n r.c) xg]) := by
  refine Gx.enter (l := []) Try.func24 rfl Try.ntmps24 rfl (Sat.start W) ?_
  refine Gx.know (m' := [(0, .agg #[.slice ax1 nx1 cx1, .int .i64 s.n, .int .i64 s.who, .int .i64 s.val, .slice ax2 nx2 cx2, .slice ax3 nx3 cx3])]) (.cons rfl .nil) ?_
  refine Gx.seq ?_
  refine Gx.region ?_
  refine Gx.eff rfl rfl rfl (eff_box rfl rfl (vs := [.slice ax1 nx1 cx1, .int .i64 s.n, .int .i64 s.who, .int .i64 s.val, .slice ax2 nx2 cx2, .slice ax3 nx3 cx3]) rfl) ?_
  rintro _ _ ⟨b1, rfl, rfl⟩
  refine Gx.eff rfl rfl rfl (eff_alloc rfl Try.ty27 (vs := [.slice none 0 0, .int .i64 0, .int .i64 0, .int .i64 0, .slice none 0 0, .slice none 0 0]) rfl) ?_
  rintro _ _ ⟨b2, rfl, rfl⟩
  refine Gx.done ?_
  refine Gx.thenN ?_
  refine Gx.seq ?_
  refine Gx.regionO (fun j => j == 2 || j == 5 || j == 8) 10 [0, 1, 3, 4, 6, 7, 2, 9, 5, 8] (fun us => match us with | [] => [Hp.rec_ b2 [.slice none 0 0, .int .i64 0, .int .i64 0, .int .i64 0, .slice none 0 0, .slice none 0 0], Hp.rec_ b1 [.slice ax1 nx1 cx1, .int .i64 s.n, .int .i64 s.who, .int .i64 s.val, .slice ax2 nx2 cx2, .slice ax3 nx3 cx3]] | [u1] => [Hp.own FI 1 u1 xc, Hp.rec_ b2 [.slice none 0 0, .int .i64 0, .int .i64 0, .int .i64 0, .slice none 0 0, .slice none 0 0], Hp.rec_ b1 [.slice ax1 nx1 cx1, .int .i64 s.n, .int .i64 s.who, .int .i64 s.val, .slice ax2 nx2 cx2, .slice ax3 nx3 cx3]] | [u1, u2] => [Hp.own FD 3 u2 xa, Hp.own FI 1 u1 xc, Hp.rec_ b2 [.slice none 0 0, .int .i64 0, .int .i64 0, .int .i64 0, .slice none 0 0, .slice none 0 0], Hp.rec_ b1 [.slice ax1 nx1 cx1, .int .i64 s.n, .int .i64 s.who, .int .i64 s.val, .slice ax2 nx2 cx2, .slice ax3 nx3 cx3]] | u1 :: u2 :: u3 :: _ => [Hp.own FD 3 u3 xg, Hp.own FD 3 u2 xa, Hp.own FI 1 u1 xc, Hp.rec_ b2 [.slice none 0 0, .int .i64 0, .int .i64 0, .int .i64 0, .slice none 0 0, .slice none 0 0], Hp.rec_ b1 [.slice ax1 nx1 cx1, .int .i64 s.n, .int .i64 s.who, .int .i64 s.val, .slice ax2 nx2 cx2, .slice ax3 nx3 cx3]]) Try.mixed (by kernel_rfl) rfl ?_
  refine Gw.val rfl rfl rfl rfl rfl (fun us => Val.cast (val_fieldAddr rfl Try.underlying27 rfl Try.ty22 rfl rfl) (v' := ptr b1 0) rfl) ?_
  refine Gw.val rfl rfl rfl rfl rfl (fun us => match us with | [] => val_load rfl Try.ty22 rfl rfl (cell_rec (k := 1) rfl rfl) | [u1] => val_load rfl Try.ty22 rfl rfl (cell_rec (k := 2) rfl rfl) | [u1, u2] => val_load rfl Try.ty22 rfl rfl (cell_rec (k := 3) rfl rfl) | u1 :: u2 :: u3 :: _ => val_load rfl Try.ty22 rfl rfl (cell_rec (k := 4) rfl rfl)) ?_
  refine Gw.val rfl rfl rfl rfl rfl (fun us => Val.cast (val_fieldAddr rfl Try.underlying27 rfl Try.ty25 rfl rfl) (v' := ptr b1 4) rfl) ?_
  refine Gw.val rfl rfl rfl rfl rfl (fun us => match us with | [] => val_load rfl Try.ty25 rfl rfl (cell_rec (k := 1) rfl rfl) | [u1] => val_load rfl Try.ty25 rfl rfl (cell_rec (k := 2) rfl rfl) | [u1, u2] => val_load rfl Try.ty25 rfl rfl (cell_rec (k := 3) rfl rfl) | u1 :: u2 :: u3 :: _ => val_load rfl Try.ty25 rfl rfl (cell_rec (k := 4) rfl rfl)) ?_
  refine Gw.val rfl rfl rfl rfl rfl (fun us => Val.cast (val_fieldAddr rfl Try.underlying27 rfl Try.ty25 rfl rfl) (v' := ptr b1 5) rfl) ?_
  refine Gw.val rfl rfl rfl rfl rfl (fun us => match us with | [] => val_load rfl Try.ty25 rfl rfl (cell_rec (k := 1) rfl rfl) | [u1] => val_load rfl Try.ty25 rfl rfl (cell_rec (k := 2) rfl rfl) | [u1, u2] => val_load rfl Try.ty25 rfl rfl (cell_rec (k := 3) rfl rfl) | u1 :: u2 :: u3 :: _ => val_load rfl Try.ty25 rfl rfl (cell_rec (k := 4) rfl rfl)) ?_
  refine Gw.chg rfl rfl rfl rfl rfl IsS (Eff.mono (eff_callV1 (S := IsS) (p := fun v => Hp.own FI 1 v xc) (vs := [.slice ax1 nx1 cx1]) rfl Try.fn36 rfl (fun w H => cloneI_any (hxc.below H.below) (by omega))) (fun _ _ h => ⟨h.1, congrArg sep h.2⟩)) ?_
  intro cv3 hicv3
  refine Gw.val rfl rfl rfl rfl rfl (fun us => Val.cast (val_fieldAddr rfl Try.underlying27 rfl Try.ty22 rfl rfl) (v' := ptr b1 0) rfl) ?_
  refine Gw.chg rfl rfl rfl rfl rfl IsS (Eff.mono (eff_callV1 (S := IsS) (p := fun v => Hp.own FD 3 v xa) (vs := [.slice ax2 nx2 cx2]) rfl Try.fn39 rfl (fun w H => cloneD_any (hxa.below H.below) (by omega))) (fun _ _ h => ⟨h.1, congrArg sep h.2⟩)) ?_
  intro cv4 hicv4
  refine Gw.chg rfl rfl rfl rfl rfl IsS (Eff.mono (eff_callV1 (S := IsS) (p := fun v => Hp.own FD 3 v xg) (vs := [.slice ax3 nx3 cx3]) rfl Try.fn39 rfl (fun w H => cloneD_any (hxg.below H.below) (by omega))) (fun _ _ h => ⟨h.1, congrArg sep h.2⟩)) ?_
  intro cv5 hicv5
  refine Gw.done ?_
  refine Gx.norm (l' := [Hp.own FD 3 cv5 xg, Hp.own FD 3 cv4 xa, Hp.own FI 1 cv3 xc, Hp.rec_ b2 [.slice none 0 0, .int .i64 0, .int .i64 0, .int .i64 0, .slice none 0 0, .slice none 0 0], Hp.rec_ b1 [.slice ax1 nx1 cx1, .int .i64 s.n, .int .i64 s.who, .int .i64 s.val, .slice ax2 nx2 cx2, .slice ax3 nx3 cx3]]) rfl ?_
  refine Gx.eff0 rfl rfl (eff_store rfl Try.ty22 rfl rfl (us := [cv3]) hicv3.cellsL rfl hicv3.all (k := 4) rfl (rfl) (vs' := [cv3, .int .i64 s.n, .int .i64 s.who, .int .i64 s.val, .slice ax2 nx2 cx2, .slice ax3 nx3 cx3]) (rfl) (l' := [Hp.own FD 3 cv5 xg, Hp.own FD 3 cv4 xa, Hp.own FI 1 cv3 xc, Hp.rec_ b2 [.slice none 0 0, .int .i64 0, .int .i64 0, .int .i64 0, .slice none 0 0, .slice none 0 0], Hp.rec_ b1 [cv3, .int .i64 s.n, .int .i64 s.who, .int .i64 s.val, .slice ax2 nx2 cx2, .slice ax3 nx3 cx3]]) rfl) ?_
  rintro _ _ rfl
  refine Gx.val rfl rfl rfl (Val.cast (val_fieldAddr rfl Try.underlying27 rfl Try.ty25 rfl rfl) (v' := ptr b1 4) rfl) ?_
  refine Gx.eff0 rfl rfl (eff_store rfl Try.ty25 rfl rfl (us := [cv4]) hicv4.cellsL rfl hicv4.all (k := 4) rfl (rfl) (vs' := [cv3, .int .i64 s.n, .int .i64 s.who, .int .i64 s.val, cv4, .slice ax3 nx3 cx3]) (rfl) (l' := [Hp.own FD 3 cv5 xg, Hp.own FD 3 cv4 xa, Hp.own FI 1 cv3 xc, Hp.rec_ b2 [.slice none 0 0, .int .i64 0, .int .i64 0, .int .i64 0, .slice none 0 0, .slice none 0 0], Hp.rec_ b1 [cv3, .int .i64 s.n, .int .i64 s.who, .int .i64 s.val, cv4, .slice ax3 nx3 cx3]]) rfl) ?_
  rintro _ _ rfl
  refine Gx.val rfl rfl rfl (Val.cast (val_fieldAddr rfl Try.underlying27 rfl Try.ty25 rfl rfl) (v' := ptr b1 5) rfl) ?_
  refine Gx.eff0 rfl rfl (eff_store rfl Try.ty25 rfl rfl (us := [cv5]) hicv5.cellsL rfl hicv5.all (k := 4) rfl (rfl) (vs' := [cv3, .int .i64 s.n, .int .i64 s.who, .int .i64 s.val, cv4, cv5]) (rfl) (l' := [Hp.own FD 3 cv5 xg, Hp.own FD 3 cv4 xa, Hp.own FI 1 cv3 xc, Hp.rec_ b2 [.slice none 0 0, .int .i64 0, .int .i64 0, .int .i64 0, .slice none 0 0, .slice none 0 0], Hp.rec_ b1 [cv3, .int .i64 s.n, .int .i64 s.who, .int .i64 s.val, cv4, cv5]]) rfl) ?_
  rintro _ _ rfl
  refine Gx.done ?_
  refine Gx.thenN ?_
  refine Gx.seq ?_
  refine Gx.region ?_
  refine Gx.val rfl rfl rfl (Val.cast (val_loadA rfl Try.ty27 rfl rfl rfl (cells_rec (k := 4) rfl)) (v' := .agg #[cv3, .int .i64 s.n, .int .i64 s.who, .int .i64 s.val, cv4, cv5]) rfl) ?_
  refine Gx.eff0 rfl rfl (eff_store rfl Try.ty27 rfl rfl (us := [cv3, .int .i64 s.n, .int .i64 s.who, .int .i64 s.val, cv4, cv5]) rfl rfl (by simp only [List.all_cons, List.all_nil, Bool.true_and, Bool.and_true, IsS.one hicv3, IsS.one hicv4, IsS.one hicv5] <;> rfl) (k := 3) rfl (rfl) (vs' := [cv3, .int .i64 s.n, .int .i64 s.who, .int .i64 s.val, cv4, cv5]) (rfl) (l' := [Hp.own FD 3 cv5 xg, Hp.own FD 3 cv4 xa, Hp.own FI 1 cv3 xc, Hp.rec_ b2 [cv3, .int .i64 s.n, .int .i64 s.who, .int .i64 s.val, cv4, cv5], Hp.rec_ b1 [cv3, .int .i64 s.n, .int .i64 s.who, .int .i64 s.val, cv4, cv5]]) rfl) ?_
  rintro _ _ rfl
  refine Gx.done ?_
  refine Gx.thenN ?_
  refine Gx.ret ?_
  refine Gx.drop 4 rfl ?_
  refine Gx.front 3 rfl ?_
  refine Gx.front 1 rfl ?_
  refine Gx.front 2 rfl ?_
  refine Gx.front 3 rfl ?_
  obtain ⟨sa6, sn7, sc8, rfl⟩ := hicv3
  obtain ⟨sa9, sn10, sc11, rfl⟩ := hicv4
  obtain ⟨sa12, sn13, sc14, rfl⟩ := hicv5
  refine Gx.norm (l' := [Hp.own FI 1 (.slice sa6 sn7 sc8) xc, Hp.own FD 3 (.slice sa9 sn10 sc11) xa, Hp.own FD 3 (.slice sa12 sn13 sc14) xg, Hp.rec_ b2 [.slice sa6 sn7 sc8, .int .i64 s.n, .int .i64 s.who, .int .i64 s.val, .slice sa9 sn10 sc11, .slice sa12 sn13 sc14]]) rfl ?_
  refine Gx.retC1 Try.results24 Try.ty27 rfl rfl (us := [.slice sa6 sn7 sc8, .int .i64 s.n, .int .i64 s.who, .int .i64 s.val, .slice sa9 sn10 sc11, .slice sa12 sn13 sc14]) rfl (k := 3) rfl ?_
  exact ⟨⟨sa6, sn7, sc8⟩, ⟨sa9, sn10, sc11⟩, ⟨sa12, sn13, sc14⟩, rfl, rfl⟩

theorem play_no {W : World} {k : Int} {sv : Value} {xs : List Sy} (hs : SlS FY 5 W sv xs) (hbad : k < 1 ∨ 6 < k ∨ 120 < (xs.length : Int)) :
    Calls Try.prog 12 #[.int .i64 k, sv] W fun e w' => e = .returned (.tuple #[.slice none 0 0, .slice none 0 0, .int .i64 1]) ∧ Below W.heap.size W w' := by
  refine calls_pure (Gx.enter (l := []) Try.func12 rfl Try.ntmps12 rfl (Sat.start W) ?_)
  refine Gx.know (m' := [(0, .int .i64 k), (1, sv)]) (.cons rfl (.cons rfl .nil)) ?_
  refine Gx.seq ?_
  refine Gx.region ?_
  refine Gx.val rfl rfl rfl (val_assign rfl rfl) ?_
  refine Gx.val rfl rfl rfl (val_assign rfl rfl) ?_
  refine Gx.val rfl rfl rfl (val_assign rfl rfl) ?_
  refine Gx.done ?_
  refine Gx.thenN ?_
  refine Gx.seq ?_
  refine Gx.seq ?_
  refine Gx.region ?_
  refine Gx.val rfl rfl rfl (val_move rfl rfl) ?_
  refine Gx.val rfl rfl rfl (val_lss rfl rfl rfl) ?_
  refine Gx.val rfl rfl rfl (val_move rfl rfl) ?_
  refine Gx.cases (t := 18) rfl (fun h1 => ?_) (fun h1 => ?_)
  · refine Gx.skipg rfl rfl rfl rfl rfl rfl ?_
    refine Gx.skipg rfl rfl rfl rfl rfl rfl ?_
    refine Gx.val rfl rfl rfl (val_pickT rfl rfl rfl) ?_
    refine Gx.val rfl rfl rfl (val_move rfl rfl) ?_
    refine Gx.skipg rfl rfl rfl rfl rfl rfl ?_
    refine Gx.skipg rfl rfl rfl rfl rfl rfl ?_
    refine Gx.skipg rfl rfl rfl rfl rfl rfl ?_
    refine Gx.val rfl rfl rfl (val_pickT rfl rfl rfl) ?_
    refine Gx.done ?_
    refine Gx.thenN ?_
    refine Gx.t rfl ?_
    refine Gx.seq ?_
    refine Gx.region ?_
    refine Gx.val rfl rfl rfl (val_assign rfl rfl) ?_
    refine Gx.val rfl rfl rfl (val_assign rfl rfl) ?_
    refine Gx.val rfl rfl rfl (val_assign rfl rfl) ?_
    refine Gx.done ?_
    refine Gx.thenN ?_
    refine Gx.ret ?_
    refine Gx.thenR ?_
    refine Gx.ret3 Try.results12 rfl rfl rfl ?_
    rfl
  refine Gx.valg rfl rfl rfl rfl rfl (val_move rfl rfl) ?_
  refine Gx.valg rfl rfl rfl rfl rfl (val_gtr rfl rfl rfl) ?_
  refine Gx.val rfl rfl rfl (val_pickF rfl rfl rfl) ?_
  refine Gx.val rfl rfl rfl (val_move rfl rfl) ?_
  refine Gx.cases (t := 22) rfl (fun h2 => ?_) (fun h2 => ?_)
  · refine Gx.skipg rfl rfl rfl rfl rfl rfl ?_
    refine Gx.skipg rfl rfl rfl rfl rfl rfl ?_
    refine Gx.skipg rfl rfl rfl rfl rfl rfl ?_
    refine Gx.val rfl rfl rfl (val_pickT rfl rfl rfl) ?_
    refine Gx.done ?_
    refine Gx.thenN ?_
    refine Gx.t rfl ?_
    refine Gx.seq ?_
    refine Gx.region ?_
    refine Gx.val rfl rfl rfl (val_assign rfl rfl) ?_
    refine Gx.val rfl rfl rfl (val_assign rfl rfl) ?_
    refine Gx.val rfl rfl rfl (val_assign rfl rfl) ?_
    refine Gx.done ?_
    refine Gx.thenN ?_
    refine Gx.ret ?_
    refine Gx.thenR ?_
    refine Gx.ret3 Try.results12 rfl rfl rfl ?_
    rfl
  refine Gx.valg rfl rfl rfl rfl rfl (val_move rfl rfl) ?_
  refine Gx.valg rfl rfl rfl rfl rfl (val_len rfl Try.underlying34 rfl (len_base hs)) ?_
  refine Gx.valg rfl rfl rfl rfl rfl (val_gtr rfl rfl rfl) ?_
  refine Gx.val rfl rfl rfl (val_pickF rfl rfl rfl) ?_
  refine Gx.done ?_
  refine Gx.thenN ?_
  refine Gx.dec rfl (fun h3 => ?_) (fun h3 => ?_)
  · refine Gx.seq ?_
    refine Gx.region ?_
    refine Gx.val rfl rfl rfl (val_assign rfl rfl) ?_
    refine Gx.val rfl rfl rfl (val_assign rfl rfl) ?_
    refine Gx.val rfl rfl rfl (val_assign rfl rfl) ?_
    refine Gx.done ?_
    refine Gx.thenN ?_
    refine Gx.ret ?_
    refine Gx.thenR ?_
    refine Gx.ret3 Try.results12 rfl rfl rfl ?_
    rfl
  exfalso; omega

set_option maxHeartbeats 1000000 in
theorem play_raw {W : World} {n : Nat} {sv : Value} {xs : List Sy} (h1n : 1 ≤ n) (h6n : n ≤ 6) (hs : SlS FY 5 W sv xs) (hcx : xs.length ≤ 120) :
    Calls Try.prog 12 #[.int .i64 ((n : Nat) : Int), sv] W (Ret W fun u l9 => ∃ (av cv : Value) (ms : List Cm), IsS av ∧ IsS cv ∧ u = .tuple #[av, cv, .int .i64 0] ∧ ms.map Cm.c = stM n (ms0 n) xs ∧ l9 = [Hp.own FC 6 av ms, Hp.big rowsH ms, Hp.own FE 1 cv (codesM n (ms0 n) xs)]) := by
  have hrl : (List.replicate n zc).length = n := List.length_replicate ..
  refine Gx.enter (l := []) Try.func12 rfl Try.ntmps12 rfl (Sat.start W) ?_
  refine Gx.know (m' := [(0, .int .i64 ((n : Nat) : Int)), (1, sv)]) (.cons rfl (.cons rfl .nil)) ?_
  refine Gx.seq ?_
  refine Gx.region ?_
  refine Gx.val rfl rfl rfl (val_assign rfl rfl) ?_
  refine Gx.val rfl rfl rfl (val_assign rfl rfl) ?_
  refine Gx.val rfl rfl rfl (val_assign rfl rfl) ?_
  refine Gx.done ?_
  refine Gx.thenN ?_
  refine Gx.seq ?_
  refine Gx.seq ?_
  refine Gx.region ?_
  refine Gx.val rfl rfl rfl (val_move rfl rfl) ?_
  refine Gx.val rfl rfl rfl (val_lss rfl rfl rfl) ?_
  refine Gx.val rfl rfl rfl (val_move rfl rfl) ?_
  refine Gx.slot (t := 18) (v := .bool false) (look_decF rfl (by omega)) ?_
  refine Gx.valg rfl rfl rfl rfl rfl (val_move rfl rfl) ?_
  refine Gx.valg rfl rfl rfl rfl rfl (val_gtr rfl rfl rfl) ?_
  refine Gx.val rfl rfl rfl (val_pickF rfl rfl rfl) ?_
  refine Gx.val rfl rfl rfl (val_move rfl rfl) ?_
  refine Gx.slot (t := 22) (v := .bool false) (look_decF rfl (by omega)) ?_
  refine Gx.valg rfl rfl rfl rfl rfl (val_move rfl rfl) ?_
  refine Gx.valg rfl rfl rfl rfl rfl (val_len rfl Try.underlying34 rfl (len_base hs)) ?_
  refine Gx.valg rfl rfl rfl rfl rfl (val_gtr rfl rfl rfl) ?_
  refine Gx.val rfl rfl rfl (val_pickF rfl rfl rfl) ?_
  refine Gx.done ?_
  refine Gx.thenN ?_
  refine Gx.decF rfl (by omega) ?_
  refine Gx.skip ?_
  refine Gx.thenN ?_
  refine Gx.seq ?_
  refine Gx.region ?_
  refine Gx.val rfl rfl rfl (val_move rfl rfl) ?_
  refine Gx.eff rfl rfl rfl (eff_makeSlice (n := n) (f := FC) rfl Try.underlying35 Try.ty27 rfl rfl (rfl) (rfl) FC_len zc rfl (by omega) (by omega)) ?_
  rintro v1 _ ⟨hiv1, rfl⟩
  refine Gx.val rfl rfl rfl (val_assign rfl rfl) ?_
  refine Gx.done ?_
  refine Gx.thenN ?_
  refine Gx.seq ?_
  refine Gx.seq ?_
  refine Gx.sat (l' := [Hp.big rowsH (List.replicate n zc), Hp.own FC 6 v1 (List.replicate n zc)]) (fun w H => big_zc n H) ?_
  refine Gx.region ?_
  refine Gx.val rfl rfl rfl (val_move rfl rfl) ?_
  refine Gx.val rfl rfl rfl (val_len rfl Try.underlying35 rfl (len_own (k := 1) rfl)) ?_
  refine Gx.val rfl rfl rfl (val_move rfl rfl) ?_
  refine Gx.done ?_
  refine Gx.thenN ?_
  refine Gx.block ?_
  refine Gx.front 0 rfl ?_
  refine Gx.front 1 rfl ?_
  refine Gx.loop (ι := Nat × (List Cm)) (fun ξ => (ξ.1 ≤ n) ∧ (ξ.2.length = n) ∧ (∀ (j : Nat) (m : Cm), j < ξ.1 → ξ.2[j]? = some m → m.c = (⟨List.replicate n 0, ⟨0, 0, 0⟩, [], []⟩ : Cp)) ∧ (∀ j, ξ.1 ≤ j → j < n → ξ.2[j]? = some zc)) (fun ξ => [(0, .int .i64 ((n : Nat) : Int)), (1, sv), (7, v1), (29, v1), (30, .int .i64 (((List.replicate n zc).length : Nat) : Int)), (31, .int .i64 ((ξ.1 : Nat) : Int))]) (fun ξ => [Hp.own FC 6 v1 ξ.2, Hp.big rowsH ξ.2]) (fun ξ => n - ξ.1) (0, (List.replicate n zc)) ⟨by first | omega | (dsimp only; omega), List.length_replicate .., fun j m h => absurd h (Nat.not_lt_zero _), fun j _ h => by rw [List.getElem?_replicate, if_pos h]⟩ ((.cons rfl (.cons rfl (.cons rfl (.cons rfl (.cons rfl (.cons rfl .nil))))))) rfl ?_
  rintro ⟨k, ms⟩ ⟨hk, hml, hlo, hhi⟩
  dsimp only at hk hml hlo hhi
  refine Gx.know (m' := [(0, .int .i64 ((n : Nat) : Int)), (1, sv), (7, v1), (29, v1), (30, .int .i64 (((List.replicate n zc).length : Nat) : Int)), (31, .int .i64 ((k : Nat) : Int))]) (.cons rfl (.cons rfl (.cons rfl (.cons rfl (.cons rfl (.cons rfl .nil)))))) (Gx.norm (l' := [Hp.own FC 6 v1 ms, Hp.big rowsH ms]) rfl ?_)
  refine Gx.seq ?_
  refine Gx.region ?_
  refine Gx.val rfl rfl rfl (val_lss rfl rfl rfl) ?_
  refine Gx.done ?_
  refine Gx.thenN ?_
  refine Gx.seq ?_
  refine Gx.dec rfl (fun h2 => ?_) (fun h2 => ?_)
  · refine Gx.skip ?_
    refine Gx.thenN ?_
    refine Gx.seq ?_
    refine Gx.block ?_
    refine Gx.seq ?_
    refine Gx.region ?_
    refine Gx.val rfl rfl rfl (val_move rfl rfl) ?_
    refine Gx.val rfl rfl rfl (val_assign rfl rfl) ?_
    refine Gx.done ?_
    refine Gx.thenN ?_
    have hmk : ms[k]? = some zc := hhi k (Nat.le_refl _) (by omega)
    refine Gx.region ?_
    refine Gx.val rfl rfl rfl (val_move rfl rfl) ?_
    refine Gx.val rfl rfl rfl (val_move rfl rfl) ?_
    refine Gx.val rfl rfl rfl (val_move rfl rfl) ?_
    refine Gx.eff rfl rfl rfl (eff_makeSlice (n := n) (f := FI) rfl Try.underlying22 Try.ty2 rfl rfl (rfl) (rfl) FI_len (0 : Int) rfl (by omega) (by omega)) ?_
    rintro v3 _ ⟨hiv3, rfl⟩
    obtain ⟨sa4, sn5, sc6, rfl⟩ := hiv3
    refine Gx.val rfl rfl rfl (val_ixa rfl Try.underlying35 Try.ty27 rfl rfl (j := k) (rfl) (reach_own (k := 1) rfl hmk)) ?_
    refine Gx.val rfl rfl rfl (Val.cast (val_fieldAddr rfl Try.underlying27 rfl Try.ty22 rfl rfl) (v' := ptr (sB v1) (sO v1 + k * 6)) rfl) ?_
    refine Gx.eff0 rfl rfl (eff_storeEl (i := 0) (e' := (⟨⟨sa4, sn5, sc6⟩, zv, zv, (⟨List.replicate n 0, ⟨0, 0, 0⟩, [], []⟩ : Cp)⟩ : Cm)) rfl Try.ty22 rfl rfl rfl rfl (k := 1) rfl FC_len hmk (by decide) (rfl) (l' := [Hp.own FI 1 (.slice sa4 sn5 sc6) (List.replicate n (0 : Int)), Hp.own FC 6 v1 (ms.set k (⟨⟨sa4, sn5, sc6⟩, zv, zv, (⟨List.replicate n 0, ⟨0, 0, 0⟩, [], []⟩ : Cp)⟩ : Cm)), Hp.big rowsH ms]) rfl) ?_
    rintro _ _ rfl
    refine Gx.done ?_
    refine Gx.blkN ?_
    refine Gx.thenN ?_
    refine Gx.sepEq (l' := [(sep [Hp.own FI 1 (.slice sa4 sn5 sc6) (List.replicate n (0 : Int))]), Hp.own FC 6 v1 (ms.set k (⟨⟨sa4, sn5, sc6⟩, zv, zv, (⟨List.replicate n 0, ⟨0, 0, 0⟩, [], []⟩ : Cp)⟩ : Cm)), Hp.big rowsH ms]) (by show _ = _; simp only [sep, Hp.mul_one]) ?_
    refine Gx.front 0 rfl ?_
    refine Gx.front 2 rfl ?_
    refine Gx.sat (l' := [Hp.big rowsH (ms.set k (⟨⟨sa4, sn5, sc6⟩, zv, zv, (⟨List.replicate n 0, ⟨0, 0, 0⟩, [], []⟩ : Cp)⟩ : Cm)), Hp.own FC 6 v1 (ms.set k (⟨⟨sa4, sn5, sc6⟩, zv, zv, (⟨List.replicate n 0, ⟨0, 0, 0⟩, [], []⟩ : Cp)⟩ : Cm))]) (fun w H => big_swap hmk (fun W w R H => ent_p (m := zc) (la := ⟨0, 0, 0⟩) H) (R := sep [Hp.own FC 6 v1 (ms.set k (⟨⟨sa4, sn5, sc6⟩, zv, zv, (⟨List.replicate n 0, ⟨0, 0, 0⟩, [], []⟩ : Cp)⟩ : Cm))]) H) ?_
    refine Gx.region ?_
    refine Gx.val rfl rfl rfl (val_add rfl rfl rfl (r := ((k + 1 : Nat) : Int)) (w64 (by omega) (by omega))) ?_
    refine Gx.val rfl rfl rfl (val_move rfl rfl) ?_
    refine Gx.done ?_
    refine Gx.thenN ?_
    refine Gx.front 0 rfl ?_
    refine Gx.front 1 rfl ?_
    exact Gx.round (k + 1, ms.set k (⟨⟨sa4, sn5, sc6⟩, zv, zv, (⟨List.replicate n 0, ⟨0, 0, 0⟩, [], []⟩ : Cp)⟩ : Cm)) ⟨by first | omega | (dsimp only; omega), by rw [List.length_set]; exact hml, fun j m h1 h2 => by
      by_cases e : k = j
      · subst e; rw [List.getElem?_set_self (by omega)] at h2; cases h2; rfl
      · rw [List.getElem?_set_ne e] at h2; exact hlo j m (by (try dsimp only at h1); omega) h2, fun j h1 h2 => by
      rw [List.getElem?_set_ne (by (try dsimp only at h1); omega)]; exact hhi j (by (try dsimp only at h1); omega) h2⟩ (by first | omega | (dsimp only; omega)) ((.cons rfl (.cons rfl (.cons rfl (.cons rfl (.cons rfl (.cons rfl .nil))))))) rfl
  refine Gx.exit ?_
  refine Gx.thenE ?_
  refine Gx.thenE ?_
  refine Gx.blkE ?_
  refine Gx.thenN ?_
  refine Gx.seq ?_
  obtain rfl : n = k := by omega
  have hms : ms.map Cm.c = ms0 n := by
    unfold ms0
    refine List.ext_getElem? fun j => ?_
    rw [List.getElem?_map, List.getElem?_replicate]
    split
    · rename_i h
      obtain ⟨m, hm⟩ := get_of_lt (xs := ms) (k := j) (by omega)
      rw [hm, Option.map_some, hlo j m h hm]
    · rename_i h
      rw [List.getElem?_eq_none (by omega)]; rfl
  refine Gx.ownNil FE 1 ?_
  refine Gx.region ?_
  refine Gx.val rfl rfl rfl (val_assign rfl rfl) ?_
  refine Gx.done ?_
  refine Gx.thenN ?_
  refine Gx.seq ?_
  refine Gx.seq ?_
  refine Gx.region ?_
  refine Gx.val rfl rfl rfl (val_move rfl rfl) ?_
  refine Gx.val rfl rfl rfl (val_len rfl Try.underlying34 rfl (len_base hs)) ?_
  refine Gx.val rfl rfl rfl (val_move rfl rfl) ?_
  refine Gx.done ?_
  refine Gx.thenN ?_
  refine Gx.block ?_
  refine Gx.loop (ι := Nat × Value × (List Cm)) (fun ξ => (ξ.1 ≤ xs.length) ∧ (IsS ξ.2.1) ∧ (ξ.2.2.map Cm.c = (stM n (ms0 n) (xs.take ξ.1)))) (fun ξ => [(0, .int .i64 ((n : Nat) : Int)), (1, sv), (7, v1), (41, sv), (42, .int .i64 ((xs.length : Nat) : Int)), (43, .int .i64 ((ξ.1 : Nat) : Int)), (9, ξ.2.1)]) (fun ξ => [Hp.own FE 1 ξ.2.1 (codesM n (ms0 n) (xs.take ξ.1)), Hp.own FC 6 v1 ξ.2.2, Hp.big rowsH ξ.2.2]) (fun ξ => xs.length - ξ.1) (0, (.slice none 0 0), ms) ⟨by first | omega | (dsimp only; omega), ⟨none, 0, 0, rfl⟩, hms⟩ ((.cons rfl (.cons rfl (.cons rfl (.cons rfl (.cons rfl (.cons rfl (.cons rfl .nil)))))))) rfl ?_
  rintro ⟨i, cv, mt⟩ ⟨hi, hicv, hmt⟩
  dsimp only at hi hicv hmt
  refine Gx.know (m' := [(0, .int .i64 ((n : Nat) : Int)), (1, sv), (7, v1), (41, sv), (42, .int .i64 ((xs.length : Nat) : Int)), (43, .int .i64 ((i : Nat) : Int)), (9, cv)]) (.cons rfl (.cons rfl (.cons rfl (.cons rfl (.cons rfl (.cons rfl (.cons rfl .nil))))))) (Gx.norm (l' := [Hp.own FE 1 cv (codesM n (ms0 n) (xs.take i)), Hp.own FC 6 v1 mt, Hp.big rowsH mt]) rfl ?_)
  have hbd := BdM.run (xs.take i) (BdM.start (n := n) (by omega)) (Int.le_refl 0)
  rw [← hmt] at hbd
  have htl : (xs.take i).length = i := by rw [List.length_take]; omega
  have hcl : (codesM n (ms0 n) (xs.take i)).length = i := by rw [codesM_len, htl]
  rw [htl] at hbd
  have hml2 := hbd.len
  rw [List.length_map] at hml2
  refine Gx.seq ?_
  refine Gx.region ?_
  refine Gx.val rfl rfl rfl (val_lss rfl rfl rfl) ?_
  refine Gx.done ?_
  refine Gx.thenN ?_
  refine Gx.seq ?_
  refine Gx.dec rfl (fun h7 => ?_) (fun h7 => ?_)
  · refine Gx.skip ?_
    refine Gx.thenN ?_
    refine Gx.seq ?_
    refine Gx.block ?_
    refine Gx.seq ?_
    obtain ⟨x, hx⟩ := get_of_lt (xs := xs) (k := i) (by omega)
    refine Gx.region ?_
    refine Gx.val rfl rfl rfl (val_ixa rfl Try.underlying34 Try.ty42 rfl rfl (j := i) (rfl) (reach_base hs hx)) ?_
    refine Gx.val rfl rfl rfl (Val.cast (val_loadA rfl Try.ty42 rfl rfl rfl (cells_base hs hx)) (v' := .agg #[.int .i64 x.kind, .int .i64 x.who, .int .i64 x.frm, .int .i64 x.item, .int .i64 x.n]) rfl) ?_
    refine Gx.eff rfl rfl rfl (eff_alloc rfl Try.ty42 (vs := [.int .i64 0, .int .i64 0, .int .i64 0, .int .i64 0, .int .i64 0]) rfl) ?_
    rintro _ _ ⟨b8, rfl, rfl⟩
    refine Gx.eff0 rfl rfl (eff_store rfl Try.ty42 rfl rfl (us := [.int .i64 x.kind, .int .i64 x.who, .int .i64 x.frm, .int .i64 x.item, .int .i64 x.n]) rfl rfl rfl (k := 0) rfl (rfl) (vs' := [.int .i64 x.kind, .int .i64 x.who, .int .i64 x.frm, .int .i64 x.item, .int .i64 x.n]) (rfl) (l' := [Hp.rec_ b8 [.int .i64 x.kind, .int .i64 x.who, .int .i64 x.frm, .int .i64 x.item, .int .i64 x.n], Hp.own FE 1 cv (codesM n (ms0 n) (xs.take i)), Hp.own FC 6 v1 mt, Hp.big rowsH mt]) rfl) ?_
    rintro _ _ rfl
    refine Gx.done ?_
    refine Gx.thenN ?_
    refine Gx.seq ?_
    refine Gx.region ?_
    refine Gx.val rfl rfl rfl (val_move rfl rfl) ?_
    refine Gx.val rfl rfl rfl (Val.cast (val_loadA rfl Try.ty42 rfl rfl rfl (cells_rec (k := 0) rfl)) (v' := .agg #[.int .i64 x.kind, .int .i64 x.who, .int .i64 x.frm, .int .i64 x.item, .int .i64 x.n]) rfl) ?_
    refine Gx.val rfl rfl rfl (val_call (vs := [.int .i64 ((n : Nat) : Int), .agg #[.int .i64 x.kind, .int .i64 x.who, .int .i64 x.frm, .int .i64 x.item, .int .i64 x.n]]) rfl Try.fn22 rfl (fun w H => wrong_any (n : Int) x)) ?_
    refine Gx.val rfl rfl rfl (val_assign rfl rfl) ?_
    refine Gx.done ?_
    refine Gx.thenN ?_
    refine Gx.seq ?_
    refine Gx.seq ?_
    refine Gx.region ?_
    refine Gx.val rfl rfl rfl (val_move rfl rfl) ?_
    refine Gx.val rfl rfl rfl (val_eql rfl rfl rfl) ?_
    refine Gx.done ?_
    refine Gx.thenN ?_
    refine Gx.dec rfl (fun h9 => ?_) (fun h9 => ?_)
    · refine Gx.seq ?_
      obtain ⟨wf1, wf2, wf3, wf4, wf5, wf6⟩ := wrong_facts h9
      obtain ⟨j, hwho⟩ : ∃ j : Nat, x.who = (j : Int) := ⟨x.who.toNat, by omega⟩
      obtain ⟨m, hm⟩ := get_of_lt (xs := mt) (k := j) (by omega)
      have hmc : (mt.map Cm.c)[j]? = some m.c := by rw [List.getElem?_map, hm]; rfl
      refine Gx.region ?_
      refine Gx.eff rfl rfl rfl (eff_alloc rfl Try.ty27 (vs := [.slice none 0 0, .int .i64 0, .int .i64 0, .int .i64 0, .slice none 0 0, .slice none 0 0]) rfl) ?_
      rintro _ _ ⟨b10, rfl, rfl⟩
      refine Gx.done ?_
      refine Gx.thenN ?_
      refine Gx.seq ?_
      refine Gx.region ?_
      refine Gx.val rfl rfl rfl (val_move rfl rfl) ?_
      refine Gx.val rfl rfl rfl (Val.cast (val_loadA rfl Try.ty42 rfl rfl rfl (cells_rec (k := 1) rfl)) (v' := .agg #[.int .i64 x.kind, .int .i64 x.who, .int .i64 x.frm, .int .i64 x.item, .int .i64 x.n]) rfl) ?_
      refine Gx.eff rfl rfl rfl (eff_callX (vs := [v1, .agg #[.int .i64 x.kind, .int .i64 x.who, .int .i64 x.frm, .int .i64 x.item, .int .i64 x.n]]) rfl Try.fn23 rfl (fun w H => change_any ((H.at_ (k := 3) rfl).sls (by omega)) (big_rows (H.at_ (k := 4) rfl) (own_rows hbd (by omega))) hbd (by omega) (by omega) (by omega) h9 hwho hm)) ?_
      rintro _ _ ⟨l9, ⟨m1, code, rfl, hcode, hpost⟩, rfl⟩
      refine Gx.norm (l' := [(sep l9), Hp.rec_ b10 [.slice none 0 0, .int .i64 0, .int .i64 0, .int .i64 0, .slice none 0 0, .slice none 0 0], Hp.rec_ b8 [.int .i64 x.kind, .int .i64 x.who, .int .i64 x.frm, .int .i64 x.item, .int .i64 x.n], Hp.own FE 1 cv (codesM n (ms0 n) (xs.take i)), Hp.own FC 6 v1 mt, Hp.big rowsH mt]) rfl ?_
      refine Gx.val rfl rfl rfl (val_move rfl rfl) ?_
      refine Gx.val rfl rfl rfl (val_extract rfl rfl rfl) ?_
      refine Gx.val rfl rfl rfl (val_extract rfl rfl rfl) ?_
      refine Gx.eff0 rfl rfl (eff_store rfl Try.ty27 rfl rfl (us := [.slice m1.p.a m1.p.n m1.p.c, .int .i64 m1.c.la.n, .int .i64 m1.c.la.who, .int .i64 m1.c.la.val, .slice m1.q.a m1.q.n m1.q.c, .slice m1.r.a m1.r.n m1.r.c]) rfl rfl rfl (k := 1) rfl (rfl) (vs' := [.slice m1.p.a m1.p.n m1.p.c, .int .i64 m1.c.la.n, .int .i64 m1.c.la.who, .int .i64 m1.c.la.val, .slice m1.q.a m1.q.n m1.q.c, .slice m1.r.a m1.r.n m1.r.c]) (rfl) (l' := [(sep l9), Hp.rec_ b10 [.slice m1.p.a m1.p.n m1.p.c, .int .i64 m1.c.la.n, .int .i64 m1.c.la.who, .int .i64 m1.c.la.val, .slice m1.q.a m1.q.n m1.q.c, .slice m1.r.a m1.r.n m1.r.c], Hp.rec_ b8 [.int .i64 x.kind, .int .i64 x.who, .int .i64 x.frm, .int .i64 x.item, .int .i64 x.n], Hp.own FE 1 cv (codesM n (ms0 n) (xs.take i)), Hp.own FC 6 v1 mt, Hp.big rowsH mt]) rfl) ?_
      rintro _ _ rfl
      refine Gx.val rfl rfl rfl (val_assign rfl rfl) ?_
      refine Gx.done ?_
      refine Gx.thenN ?_
      refine Gx.seq ?_
      refine Gx.region ?_
      refine Gx.val rfl rfl rfl (val_move rfl rfl) ?_
      refine Gx.val rfl rfl rfl (val_eql rfl rfl rfl) ?_
      refine Gx.done ?_
      refine Gx.thenN ?_
      refine Gx.dec rfl (fun h11 => ?_) (fun h11 => ?_)
      · obtain ⟨hpost1, hpost2⟩ := hpost h11
        refine Gx.region ?_
        refine Gx.val rfl rfl rfl (val_move rfl rfl) ?_
        refine Gx.val rfl rfl rfl (Val.cast (val_fieldAddr rfl Try.underlying42 rfl Try.ty3 rfl rfl) (v' := ptr b8 1) rfl) ?_
        refine Gx.val rfl rfl rfl (val_load rfl Try.ty3 rfl rfl (cell_rec (k := 2) rfl rfl)) ?_
        refine Gx.val rfl rfl rfl (Val.cast (val_loadA rfl Try.ty27 rfl rfl rfl (cells_rec (k := 1) rfl)) (v' := .agg #[.slice m1.p.a m1.p.n m1.p.c, .int .i64 m1.c.la.n, .int .i64 m1.c.la.who, .int .i64 m1.c.la.val, .slice m1.q.a m1.q.n m1.q.c, .slice m1.r.a m1.r.n m1.r.c]) rfl) ?_
        refine Gx.val rfl rfl rfl (val_ixa rfl Try.underlying35 Try.ty27 rfl rfl (j := j) (by omega) (reach_own (k := 4) rfl hm)) ?_
        refine Gx.eff0 rfl rfl (eff_storeElA m1 rfl Try.ty27 rfl rfl rfl FC_one (k := 4) rfl FC_len hm (l' := [(sep l9), Hp.rec_ b10 [.slice m1.p.a m1.p.n m1.p.c, .int .i64 m1.c.la.n, .int .i64 m1.c.la.who, .int .i64 m1.c.la.val, .slice m1.q.a m1.q.n m1.q.c, .slice m1.r.a m1.r.n m1.r.c], Hp.rec_ b8 [.int .i64 x.kind, .int .i64 x.who, .int .i64 x.frm, .int .i64 x.item, .int .i64 x.n], Hp.own FE 1 cv (codesM n (ms0 n) (xs.take i)), Hp.own FC 6 v1 (mt.set j m1), Hp.big rowsH mt]) rfl) ?_
        rintro _ _ rfl
        refine Gx.done ?_
        refine Gx.thenN ?_
        have hstep : stepM n (mt.map Cm.c) x = (code, (mt.map Cm.c).set j (chg (mt.map Cm.c) m.c j x).2) := by rw [h11]; exact stepM_ok h9 hwho hmc (hcode.trans h11)
        refine Gx.front 0 rfl ?_
        refine Gx.front 5 rfl ?_
        refine Gx.sat (l' := [Hp.big rowsH (mt.set j m1), Hp.rec_ b10 [.slice m1.p.a m1.p.n m1.p.c, .int .i64 m1.c.la.n, .int .i64 m1.c.la.who, .int .i64 m1.c.la.val, .slice m1.q.a m1.q.n m1.q.c, .slice m1.r.a m1.r.n m1.r.c], Hp.rec_ b8 [.int .i64 x.kind, .int .i64 x.who, .int .i64 x.frm, .int .i64 x.item, .int .i64 x.n], Hp.own FE 1 cv (codesM n (ms0 n) (xs.take i)), Hp.own FC 6 v1 (mt.set j m1)]) (fun w H => big_swap hm hpost2 (R := sep [Hp.rec_ b10 [.slice m1.p.a m1.p.n m1.p.c, .int .i64 m1.c.la.n, .int .i64 m1.c.la.who, .int .i64 m1.c.la.val, .slice m1.q.a m1.q.n m1.q.c, .slice m1.r.a m1.r.n m1.r.c], Hp.rec_ b8 [.int .i64 x.kind, .int .i64 x.who, .int .i64 x.frm, .int .i64 x.item, .int .i64 x.n], Hp.own FE 1 cv (codesM n (ms0 n) (xs.take i)), Hp.own FC 6 v1 (mt.set j m1)]) H) ?_
        refine Gx.region ?_
        refine Gx.val rfl rfl rfl (val_move rfl rfl) ?_
        refine Gx.val rfl rfl rfl (val_move rfl rfl) ?_
        refine Gx.eff rfl rfl rfl (eff_buildSlice rfl (qs := [(0, .int .i64 code)]) rfl rfl (cs := #[.int .i64 code]) (vs := [.int .i64 code]) (E := 28) rfl (fun w => by first | (go_simp; done) | (go_simp; rfl))) ?_
        rintro _ _ ⟨b12, rfl, rfl⟩
        refine Gx.eff rfl rfl rfl (eff_push (r := code) rfl Try.eE FE_len FE_one rfl rfl (k := 0) rfl rfl (k' := 3) rfl (by rw [hcl]; omega) (by rw [hcl]; omega)) ?_
        rintro v13 _ ⟨hiv13, rfl⟩
        refine Gx.norm (l' := [Hp.big rowsH (mt.set j m1), Hp.rec_ b10 [.slice m1.p.a m1.p.n m1.p.c, .int .i64 m1.c.la.n, .int .i64 m1.c.la.who, .int .i64 m1.c.la.val, .slice m1.q.a m1.q.n m1.q.c, .slice m1.r.a m1.r.n m1.r.c], Hp.rec_ b8 [.int .i64 x.kind, .int .i64 x.who, .int .i64 x.frm, .int .i64 x.item, .int .i64 x.n], Hp.own FE 1 v13 ((codesM n (ms0 n) (xs.take i)) ++ [code]), Hp.own FC 6 v1 (mt.set j m1)]) rfl ?_
        refine Gx.val rfl rfl rfl (val_assign rfl rfl) ?_
        refine Gx.done ?_
        refine Gx.blkN ?_
        refine Gx.thenN ?_
        refine Gx.region ?_
        refine Gx.val rfl rfl rfl (val_add rfl rfl rfl (r := ((i + 1 : Nat) : Int)) (w64 (by omega) (by omega))) ?_
        refine Gx.val rfl rfl rfl (val_move rfl rfl) ?_
        refine Gx.done ?_
        refine Gx.thenN ?_
        refine Gx.drop 2 rfl ?_
        refine Gx.drop 1 rfl ?_
        refine Gx.front 0 rfl ?_
        refine Gx.front 2 rfl ?_
        refine Gx.front 2 rfl ?_
        refine Gx.norm (l' := [Hp.own FE 1 v13 (codesM n (ms0 n) (xs.take (i + 1))), Hp.own FC 6 v1 (mt.set j m1), Hp.big rowsH (mt.set j m1)]) (by rw [codesM_snoc hx, ← hmt, hstep] <;> rfl) ?_
        exact Gx.round (i + 1, v13, mt.set j m1) ⟨by first | omega | (dsimp only; omega), hiv13, by rw [stM_snoc hx, ← hmt, hstep]; dsimp only; rw [map_setC, hpost1]⟩ (by first | omega | (dsimp only; omega)) ((.cons rfl (.cons rfl (.cons rfl (.cons rfl (.cons rfl (.cons rfl (.cons rfl .nil)))))))) rfl
      refine Gx.skip ?_
      refine Gx.thenN ?_
      have hstep : stepM n (mt.map Cm.c) x = (code, mt.map Cm.c) := by rw [← hcode]; exact stepM_no h9 hwho hmc (by rw [hcode]; exact h11)
      refine Gx.region ?_
      refine Gx.val rfl rfl rfl (val_move rfl rfl) ?_
      refine Gx.val rfl rfl rfl (val_move rfl rfl) ?_
      refine Gx.eff rfl rfl rfl (eff_buildSlice rfl (qs := [(0, .int .i64 code)]) rfl rfl (cs := #[.int .i64 code]) (vs := [.int .i64 code]) (E := 28) rfl (fun w => by first | (go_simp; done) | (go_simp; rfl))) ?_
      rintro _ _ ⟨b14, rfl, rfl⟩
      refine Gx.eff rfl rfl rfl (eff_push (r := code) rfl Try.eE FE_len FE_one rfl rfl (k := 0) rfl rfl (k' := 3) rfl (by rw [hcl]; omega) (by rw [hcl]; omega)) ?_
      rintro v15 _ ⟨hiv15, rfl⟩
      refine Gx.norm (l' := [(sep l9), Hp.rec_ b10 [.slice m1.p.a m1.p.n m1.p.c, .int .i64 m1.c.la.n, .int .i64 m1.c.la.who, .int .i64 m1.c.la.val, .slice m1.q.a m1.q.n m1.q.c, .slice m1.r.a m1.r.n m1.r.c], Hp.rec_ b8 [.int .i64 x.kind, .int .i64 x.who, .int .i64 x.frm, .int .i64 x.item, .int .i64 x.n], Hp.own FE 1 v15 ((codesM n (ms0 n) (xs.take i)) ++ [code]), Hp.own FC 6 v1 mt, Hp.big rowsH mt]) rfl ?_
      refine Gx.val rfl rfl rfl (val_assign rfl rfl) ?_
      refine Gx.done ?_
      refine Gx.blkN ?_
      refine Gx.thenN ?_
      refine Gx.region ?_
      refine Gx.val rfl rfl rfl (val_add rfl rfl rfl (r := ((i + 1 : Nat) : Int)) (w64 (by omega) (by omega))) ?_
      refine Gx.val rfl rfl rfl (val_move rfl rfl) ?_
      refine Gx.done ?_
      refine Gx.thenN ?_
      refine Gx.drop 2 rfl ?_
      refine Gx.drop 1 rfl ?_
      refine Gx.drop 0 rfl ?_
      refine Gx.norm (l' := [Hp.own FE 1 v15 (codesM n (ms0 n) (xs.take (i + 1))), Hp.own FC 6 v1 mt, Hp.big rowsH mt]) (by rw [codesM_snoc hx, ← hmt, hstep] <;> rfl) ?_
      exact Gx.round (i + 1, v15, mt) ⟨by first | omega | (dsimp only; omega), hiv15, by rw [stM_snoc hx, ← hmt, hstep]⟩ (by first | omega | (dsimp only; omega)) ((.cons rfl (.cons rfl (.cons rfl (.cons rfl (.cons rfl (.cons rfl (.cons rfl .nil)))))))) rfl
    refine Gx.skip ?_
    refine Gx.thenN ?_
    have hstep : stepM n (mt.map Cm.c) x = (wrongC n x, mt.map Cm.c) := stepM_wrong h9
    refine Gx.region ?_
    refine Gx.val rfl rfl rfl (val_move rfl rfl) ?_
    refine Gx.val rfl rfl rfl (val_move rfl rfl) ?_
    refine Gx.eff rfl rfl rfl (eff_buildSlice rfl (qs := [(0, .int .i64 (wrongC (n : Int) x))]) rfl rfl (cs := #[.int .i64 (wrongC (n : Int) x)]) (vs := [.int .i64 (wrongC (n : Int) x)]) (E := 28) rfl (fun w => by first | (go_simp; done) | (go_simp; rfl))) ?_
    rintro _ _ ⟨b16, rfl, rfl⟩
    refine Gx.eff rfl rfl rfl (eff_push (r := (wrongC (n : Int) x)) rfl Try.eE FE_len FE_one rfl rfl (k := 0) rfl rfl (k' := 1) rfl (by rw [hcl]; omega) (by rw [hcl]; omega)) ?_
    rintro v17 _ ⟨hiv17, rfl⟩
    refine Gx.norm (l' := [Hp.rec_ b8 [.int .i64 x.kind, .int .i64 x.who, .int .i64 x.frm, .int .i64 x.item, .int .i64 x.n], Hp.own FE 1 v17 ((codesM n (ms0 n) (xs.take i)) ++ [(wrongC (n : Int) x)]), Hp.own FC 6 v1 mt, Hp.big rowsH mt]) rfl ?_
    refine Gx.val rfl rfl rfl (val_assign rfl rfl) ?_
    refine Gx.done ?_
    refine Gx.blkN ?_
    refine Gx.thenN ?_
    refine Gx.region ?_
    refine Gx.val rfl rfl rfl (val_add rfl rfl rfl (r := ((i + 1 : Nat) : Int)) (w64 (by omega) (by omega))) ?_
    refine Gx.val rfl rfl rfl (val_move rfl rfl) ?_
    refine Gx.done ?_
    refine Gx.thenN ?_
    refine Gx.drop 0 rfl ?_
    refine Gx.norm (l' := [Hp.own FE 1 v17 (codesM n (ms0 n) (xs.take (i + 1))), Hp.own FC 6 v1 mt, Hp.big rowsH mt]) (by rw [codesM_snoc hx, ← hmt, hstep] <;> rfl) ?_
    exact Gx.round (i + 1, v17, mt) ⟨by first | omega | (dsimp only; omega), hiv17, by rw [stM_snoc hx, ← hmt, hstep]⟩ (by first | omega | (dsimp only; omega)) ((.cons rfl (.cons rfl (.cons rfl (.cons rfl (.cons rfl (.cons rfl (.cons rfl .nil)))))))) rfl
  refine Gx.exit ?_
  refine Gx.thenE ?_
  refine Gx.thenE ?_
  refine Gx.blkE ?_
  refine Gx.thenN ?_
  refine Gx.seq ?_
  refine Gx.seq ?_
  have hti : xs.take i = xs := List.take_of_length_le (by omega)
  rw [hti] at hmt hcl
  rw [show (i : Int) = (xs.length : Int) by omega] at hbd
  refine Gx.norm (l' := [Hp.own FE 1 cv (codesM n (ms0 n) xs), Hp.own FC 6 v1 mt, Hp.big rowsH mt]) (by rw [hti] <;> rfl) ?_
  refine Gx.region ?_
  refine Gx.val rfl rfl rfl (val_move rfl rfl) ?_
  refine Gx.val rfl rfl rfl (val_len rfl Try.underlying35 rfl (len_own (k := 1) rfl)) ?_
  refine Gx.val rfl rfl rfl (val_move rfl rfl) ?_
  refine Gx.done ?_
  refine Gx.thenN ?_
  refine Gx.block ?_
  refine Gx.loop (ι := Nat × (List Cm)) (fun ξ => (ξ.1 ≤ n) ∧ (ξ.2.map Cm.c = stM n (ms0 n) xs)) (fun ξ => [(7, v1), (9, cv), (70, v1), (71, .int .i64 ((mt.length : Nat) : Int)), (72, .int .i64 ((ξ.1 : Nat) : Int))]) (fun ξ => [Hp.own FE 1 cv (codesM n (ms0 n) xs), Hp.own FC 6 v1 ξ.2, Hp.big rowsH ξ.2]) (fun ξ => n - ξ.1) (0, mt) ⟨Nat.zero_le _, hmt⟩ ((.cons rfl (.cons rfl (.cons rfl (.cons rfl (.cons rfl .nil)))))) rfl ?_
  rintro ⟨q, mu⟩ ⟨hq, hmu⟩
  dsimp only at hq hmu
  refine Gx.know (m' := [(7, v1), (9, cv), (70, v1), (71, .int .i64 ((mt.length : Nat) : Int)), (72, .int .i64 ((q : Nat) : Int))]) (.cons rfl (.cons rfl (.cons rfl (.cons rfl (.cons rfl .nil))))) (Gx.norm (l' := [Hp.own FE 1 cv (codesM n (ms0 n) xs), Hp.own FC 6 v1 mu, Hp.big rowsH mu]) rfl ?_)
  have hbu := hbd
  rw [hmt, ← hmu] at hbu
  have hml3 := hbu.len
  rw [List.length_map] at hml3
  refine Gx.seq ?_
  refine Gx.region ?_
  refine Gx.val rfl rfl rfl (val_lss rfl rfl rfl) ?_
  refine Gx.done ?_
  refine Gx.thenN ?_
  refine Gx.seq ?_
  refine Gx.dec rfl (fun h18 => ?_) (fun h18 => ?_)
  · refine Gx.skip ?_
    refine Gx.thenN ?_
    refine Gx.seq ?_
    refine Gx.block ?_
    refine Gx.seq ?_
    obtain ⟨m, hmq⟩ := get_of_lt (xs := mu) (k := q) (by omega)
    have hbq := own_rows hbu (by omega) m (List.mem_of_getElem? hmq)
    refine Gx.region ?_
    refine Gx.val rfl rfl rfl (val_move rfl rfl) ?_
    refine Gx.val rfl rfl rfl (val_ixa rfl Try.underlying35 Try.ty27 rfl rfl (j := q) (rfl) (reach_own (k := 1) rfl hmq)) ?_
    refine Gx.val rfl rfl rfl (Val.cast (val_loadA rfl Try.ty27 rfl rfl rfl (cells_own (k := 1) rfl hmq)) (v' := .agg #[.slice m.p.a m.p.n m.p.c, .int .i64 m.c.la.n, .int .i64 m.c.la.who, .int .i64 m.c.la.val, .slice m.q.a m.q.n m.q.c, .slice m.r.a m.r.n m.r.c]) rfl) ?_
    refine Gx.eff rfl rfl rfl (eff_alloc rfl Try.ty27 (vs := [.slice none 0 0, .int .i64 0, .int .i64 0, .int .i64 0, .slice none 0 0, .slice none 0 0]) rfl) ?_
    rintro _ _ ⟨b19, rfl, rfl⟩
    refine Gx.val rfl rfl rfl (val_assign rfl rfl) ?_
    refine Gx.eff0 rfl rfl (eff_store rfl Try.ty27 rfl rfl (us := [.slice m.p.a m.p.n m.p.c, .int .i64 m.c.la.n, .int .i64 m.c.la.who, .int .i64 m.c.la.val, .slice m.q.a m.q.n m.q.c, .slice m.r.a m.r.n m.r.c]) rfl rfl rfl (k := 0) rfl (rfl) (vs' := [.slice m.p.a m.p.n m.p.c, .int .i64 m.c.la.n, .int .i64 m.c.la.who, .int .i64 m.c.la.val, .slice m.q.a m.q.n m.q.c, .slice m.r.a m.r.n m.r.c]) (rfl) (l' := [Hp.rec_ b19 [.slice m.p.a m.p.n m.p.c, .int .i64 m.c.la.n, .int .i64 m.c.la.who, .int .i64 m.c.la.val, .slice m.q.a m.q.n m.q.c, .slice m.r.a m.r.n m.r.c], Hp.own FE 1 cv (codesM n (ms0 n) xs), Hp.own FC 6 v1 mu, Hp.big rowsH mu]) rfl) ?_
    rintro _ _ rfl
    refine Gx.done ?_
    refine Gx.thenN ?_
    refine Gx.region ?_
    refine Gx.val rfl rfl rfl (val_move rfl rfl) ?_
    refine Gx.val rfl rfl rfl (val_move rfl rfl) ?_
    refine Gx.val rfl rfl rfl (Val.cast (val_loadA rfl Try.ty27 rfl rfl rfl (cells_rec (k := 0) rfl)) (v' := .agg #[.slice m.p.a m.p.n m.p.c, .int .i64 m.c.la.n, .int .i64 m.c.la.who, .int .i64 m.c.la.val, .slice m.q.a m.q.n m.q.c, .slice m.r.a m.r.n m.r.c]) rfl) ?_
    refine Gx.eff rfl rfl rfl (eff_callX (vs := [.agg #[.slice m.p.a m.p.n m.p.c, .int .i64 m.c.la.n, .int .i64 m.c.la.who, .int .i64 m.c.la.val, .slice m.q.a m.q.n m.q.c, .slice m.r.a m.r.n m.r.c]]) rfl Try.fn24 rfl (fun w H => (own_any (s := m.c.la) (big_rows (H.at_ (k := 3) rfl) (own_rows hbu (by omega)) m (List.mem_of_getElem? hmq)).p (big_rows (H.at_ (k := 3) rfl) (own_rows hbu (by omega)) m (List.mem_of_getElem? hmq)).q (big_rows (H.at_ (k := 3) rfl) (own_rows hbu (by omega)) m (List.mem_of_getElem? hmq)).r hbq.1 hbq.2.1 hbq.2.2))) ?_
    rintro _ _ ⟨l9, ⟨p9, q9, r9, rfl, rfl⟩, rfl⟩
    refine Gx.norm (l' := [(sep [Hp.own FI 1 (.slice p9.a p9.n p9.c) m.c.cn, Hp.own FD 3 (.slice q9.a q9.n q9.c) m.c.ad, Hp.own FD 3 (.slice r9.a r9.n r9.c) m.c.go]), Hp.rec_ b19 [.slice m.p.a m.p.n m.p.c, .int .i64 m.c.la.n, .int .i64 m.c.la.who, .int .i64 m.c.la.val, .slice m.q.a m.q.n m.q.c, .slice m.r.a m.r.n m.r.c], Hp.own FE 1 cv (codesM n (ms0 n) xs), Hp.own FC 6 v1 mu, Hp.big rowsH mu]) rfl ?_
    refine Gx.val rfl rfl rfl (val_ixa rfl Try.underlying35 Try.ty27 rfl rfl (j := q) (rfl) (reach_own (k := 3) rfl hmq)) ?_
    refine Gx.eff0 rfl rfl (eff_storeElA (⟨p9, q9, r9, m.c⟩ : Cm) rfl Try.ty27 rfl rfl rfl FC_one (k := 3) rfl FC_len hmq (l' := [(sep [Hp.own FI 1 (.slice p9.a p9.n p9.c) m.c.cn, Hp.own FD 3 (.slice q9.a q9.n q9.c) m.c.ad, Hp.own FD 3 (.slice r9.a r9.n r9.c) m.c.go]), Hp.rec_ b19 [.slice m.p.a m.p.n m.p.c, .int .i64 m.c.la.n, .int .i64 m.c.la.who, .int .i64 m.c.la.val, .slice m.q.a m.q.n m.q.c, .slice m.r.a m.r.n m.r.c], Hp.own FE 1 cv (codesM n (ms0 n) xs), Hp.own FC 6 v1 (mu.set q (⟨p9, q9, r9, m.c⟩ : Cm)), Hp.big rowsH mu]) rfl) ?_
    rintro _ _ rfl
    refine Gx.done ?_
    refine Gx.blkN ?_
    refine Gx.thenN ?_
    refine Gx.front 0 rfl ?_
    refine Gx.front 4 rfl ?_
    refine Gx.sat (l' := [Hp.big rowsH (mu.set q (⟨p9, q9, r9, m.c⟩ : Cm)), Hp.rec_ b19 [.slice m.p.a m.p.n m.p.c, .int .i64 m.c.la.n, .int .i64 m.c.la.who, .int .i64 m.c.la.val, .slice m.q.a m.q.n m.q.c, .slice m.r.a m.r.n m.r.c], Hp.own FE 1 cv (codesM n (ms0 n) xs), Hp.own FC 6 v1 (mu.set q (⟨p9, q9, r9, m.c⟩ : Cm))]) (fun w H => big_swap hmq (fun W w R H => ent_pqr (la := m.c.la) H) (R := sep [Hp.rec_ b19 [.slice m.p.a m.p.n m.p.c, .int .i64 m.c.la.n, .int .i64 m.c.la.who, .int .i64 m.c.la.val, .slice m.q.a m.q.n m.q.c, .slice m.r.a m.r.n m.r.c], Hp.own FE 1 cv (codesM n (ms0 n) xs), Hp.own FC 6 v1 (mu.set q (⟨p9, q9, r9, m.c⟩ : Cm))]) H) ?_
    refine Gx.region ?_
    refine Gx.val rfl rfl rfl (val_add rfl rfl rfl (r := ((q + 1 : Nat) : Int)) (w64 (by omega) (by omega))) ?_
    refine Gx.val rfl rfl rfl (val_move rfl rfl) ?_
    refine Gx.done ?_
    refine Gx.thenN ?_
    refine Gx.drop 1 rfl ?_
    refine Gx.front 0 rfl ?_
    refine Gx.front 2 rfl ?_
    refine Gx.front 2 rfl ?_
    exact Gx.round (q + 1, mu.set q (⟨p9, q9, r9, m.c⟩ : Cm)) ⟨by first | omega | (dsimp only; omega), by rw [map_set_same hmq (by rfl)]; exact hmu⟩ (by first | omega | (dsimp only; omega)) ((.cons rfl (.cons rfl (.cons rfl (.cons rfl (.cons rfl .nil)))))) rfl
  refine Gx.exit ?_
  refine Gx.thenE ?_
  refine Gx.thenE ?_
  refine Gx.blkE ?_
  refine Gx.thenN ?_
  refine Gx.seq ?_
  refine Gx.region ?_
  refine Gx.val rfl rfl rfl (val_move rfl rfl) ?_
  refine Gx.val rfl rfl rfl (val_move rfl rfl) ?_
  refine Gx.val rfl rfl rfl (val_assign rfl rfl) ?_
  refine Gx.val rfl rfl rfl (val_assign rfl rfl) ?_
  refine Gx.val rfl rfl rfl (val_assign rfl rfl) ?_
  refine Gx.done ?_
  refine Gx.thenN ?_
  refine Gx.ret ?_
  refine Gx.front 0 rfl ?_
  refine Gx.front 2 rfl ?_
  refine Gx.front 2 rfl ?_
  refine Gx.norm (l' := [Hp.own FC 6 v1 mu, Hp.big rowsH mu, Hp.own FE 1 cv (codesM n (ms0 n) xs)]) rfl ?_
  refine Gx.ret3 Try.results12 rfl rfl rfl ?_
  exact ⟨_, _, mu, hiv1, hicv, rfl, hmu, rfl⟩

end Go.Proofs.Ytfpkfbffpkjgbaa
