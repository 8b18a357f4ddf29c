/- May a copy be? The walk. No condition. -/
import Derived.Test.YtfpkfbffpkjgbaaD3
namespace Go.Proofs.Ytfpkfbffpkjgbaa
open Go.RowKit
set_option linter.unusedVariables false
set_option linter.unusedSimpArgs false
set_option maxRecDepth 100000

def badV (x : Int) : Bool := decide (x < 0 ∨ ¬ (-1099511627776 ≤ x ∧ x ≤ 1099511627776))
def badD (n : Int) (d : Dt) : Bool := decide (d.item < 0 ∨ 4 ≤ d.item ∨ ¬ (0 ≤ d.who ∧ d.who < n) ∨ d.n < 1)
def baseB (n : Int) (l : Nat) (s : Sp) : Bool := decide ((l : Int) ≠ n ∨ ¬ (-1099511627776 ≤ s.val ∧ s.val ≤ 1099511627776) ∨ s.n < 0 ∨ 1000 < s.n ∨ ¬ (0 ≤ s.who ∧ s.who < n))
def badC (n : Int) (c : Cp) : Bool := ((baseB n c.cn.length c.la || c.cn.any badV) || c.ad.any (badD n)) || c.go.any (badD n)
/-- a copy that may be -/
def GoodC (n : Int) (c : Cp) : Prop := big n c.ad.length c.go.length = false ∧ badC n c = false ∧ Rises c.ad ∧ Rises c.go
def bO (b : Bool) (n : Int) (xa xg : List Dt) : Nat → Bool
  | 0 => b
  | 1 => b || xa.any (badD n)
  | _ => (b || xa.any (badD n)) || xg.any (badD n)
set_option maxHeartbeats 1000000 in
theorem check_any {W : World} {n : Int} {cv av gv : Value} {s : Sp} {xc : List Int} {xa xg : List Dt} (hc : SlS FI 1 W cv xc) (ha : SlS FD 3 W av xa) (hg : SlS FD 3 W gv xg) :
    Calls Try.prog 18 #[.int .i64 n, .agg #[cv, .int .i64 s.n, .int .i64 s.who, .int .i64 s.val, av, gv]] W fun e w' => ∃ u, e = .returned u ∧ (∃ code : Int, u = .int .i64 code ∧ (code = 0 ↔ GoodC n ⟨xc, s, xa, xg⟩)) ∧ Below W.heap.size W w' := by
  have hm1 := sls_bd hc
  have hm2 := sls_bd ha
  have hm3 := sls_bd hg
  refine calls_rel (R := fun v => ∃ code : Int, v = .int .i64 code ∧ (code = 0 ↔ GoodC n ⟨xc, s, xa, xg⟩)) (Gx.enter (l := []) Try.func18 rfl Try.ntmps18 rfl (Sat.start W) ?_)
  refine Gx.know (m' := [(0, .int .i64 n), (1, .agg #[cv, .int .i64 s.n, .int .i64 s.who, .int .i64 s.val, av, gv])]) (.cons rfl (.cons rfl .nil)) ?_
  refine Gx.seq ?_
  refine Gx.region ?_
  refine Gx.eff rfl rfl rfl (eff_box rfl rfl (vs := [.int .i64 n]) rfl) ?_
  rintro _ _ ⟨b1, rfl, rfl⟩
  refine Gx.eff rfl rfl rfl (eff_box rfl rfl (vs := [cv, .int .i64 s.n, .int .i64 s.who, .int .i64 s.val, av, gv]) rfl) ?_
  rintro _ _ ⟨b2, rfl, rfl⟩
  refine Gx.val rfl rfl rfl (val_assign rfl rfl) ?_
  refine Gx.done ?_
  refine Gx.thenN ?_
  refine Gx.seq ?_
  refine Gx.seq ?_
  refine Gx.region ?_
  refine Gx.val rfl rfl rfl (val_load rfl Try.ty3 rfl rfl (cell_rec (k := 1) rfl rfl)) ?_
  refine Gx.val rfl rfl rfl (Val.cast (val_loadA rfl Try.ty27 rfl rfl rfl (cells_rec (k := 0) rfl)) (v' := .agg #[cv, .int .i64 s.n, .int .i64 s.who, .int .i64 s.val, av, gv]) rfl) ?_
  refine Gx.val rfl rfl rfl (val_call (vs := [.int .i64 n, .agg #[cv, .int .i64 s.n, .int .i64 s.who, .int .i64 s.val, av, gv]]) rfl Try.fn28 rfl (fun w H => size_any (n := n) (s := s) hc.isS (ha.below H.below) (hg.below H.below))) ?_
  refine Gx.done ?_
  refine Gx.thenN ?_
  refine Gx.bool rfl (fun h3 => ?_) (fun h3 => ?_)
  · refine Gx.seq ?_
    refine Gx.region ?_
    refine Gx.val rfl rfl rfl (val_assign rfl rfl) ?_
    refine Gx.done ?_
    refine Gx.thenN ?_
    refine Gx.ret ?_
    refine Gx.thenR ?_
    refine Gx.ret1 Try.results18 rfl ?_
    exact ⟨1, rfl, fun h => (by cases h), fun h => absurd h.1 (by dsimp only; rw [h3]; decide)⟩
  refine Gx.skip ?_
  refine Gx.thenN ?_
  refine Gx.seq ?_
  refine Gx.region ?_
  refine Gx.val rfl rfl rfl (Val.cast (val_makeFunc (us := []) (vs := [ptr b1 0]) rfl rfl rfl) (v' := .func (.func 29) #[] #[ptr b1 0]) rfl) ?_
  refine Gx.val rfl rfl rfl (val_assign rfl rfl) ?_
  refine Gx.done ?_
  refine Gx.thenN ?_
  refine Gx.meet (ι := Bool) (fun ξ => (ξ = baseB n xc.length s)) (fun ξ => [(2, ptr b1 0), (3, ptr b2 0), (5, .func (.func 29) #[] #[ptr b1 0]), (6, .bool ξ)]) (fun ξ => [Hp.rec_ b2 [cv, .int .i64 s.n, .int .i64 s.who, .int .i64 s.val, av, gv], Hp.rec_ b1 [.int .i64 n]]) ?_ ?_
  · refine Gx.region ?_
    refine Gx.val rfl rfl rfl (Val.cast (val_fieldAddr rfl Try.underlying27 rfl Try.ty22 rfl rfl) (v' := ptr b2 0) rfl) ?_
    refine Gx.val rfl rfl rfl (val_load rfl Try.ty22 rfl rfl (cell_rec (k := 0) rfl rfl)) ?_
    refine Gx.val rfl rfl rfl (val_len rfl Try.underlying22 rfl (len_base hc)) ?_
    refine Gx.val rfl rfl rfl (val_load rfl Try.ty3 rfl rfl (cell_rec (k := 1) rfl rfl)) ?_
    refine Gx.val rfl rfl rfl (val_neq rfl rfl rfl) ?_
    refine Gx.val rfl rfl rfl (val_move rfl rfl) ?_
    refine Gx.cases (t := 22) rfl (fun h4 => ?_) (fun h4 => ?_)
    · refine Gx.skipg rfl rfl rfl rfl rfl rfl ?_
      refine Gx.skipg rfl rfl rfl rfl rfl rfl ?_
      refine Gx.skipg rfl rfl rfl rfl rfl rfl ?_
      refine Gx.skipg rfl rfl rfl rfl rfl rfl ?_
      refine Gx.skipg rfl rfl rfl rfl rfl rfl ?_
      refine Gx.val rfl rfl rfl (val_pickT rfl rfl rfl) ?_
      refine Gx.val rfl rfl rfl (val_move rfl rfl) ?_
      refine Gx.skipg rfl rfl rfl rfl rfl rfl ?_
      refine Gx.skipg rfl rfl rfl rfl rfl rfl ?_
      refine Gx.skipg rfl rfl rfl rfl rfl rfl ?_
      refine Gx.skipg rfl rfl rfl rfl rfl rfl ?_
      refine Gx.val rfl rfl rfl (val_pickT rfl rfl rfl) ?_
      refine Gx.val rfl rfl rfl (val_move rfl rfl) ?_
      refine Gx.skipg rfl rfl rfl rfl rfl rfl ?_
      refine Gx.skipg rfl rfl rfl rfl rfl rfl ?_
      refine Gx.skipg rfl rfl rfl rfl rfl rfl ?_
      refine Gx.skipg rfl rfl rfl rfl rfl rfl ?_
      refine Gx.val rfl rfl rfl (val_pickT rfl rfl rfl) ?_
      refine Gx.val rfl rfl rfl (val_move rfl rfl) ?_
      refine Gx.skipg rfl rfl rfl rfl rfl rfl ?_
      refine Gx.skipg rfl rfl rfl rfl rfl rfl ?_
      refine Gx.skipg rfl rfl rfl rfl rfl rfl ?_
      refine Gx.skipg rfl rfl rfl rfl rfl rfl ?_
      refine Gx.skipg rfl rfl rfl rfl rfl rfl ?_
      refine Gx.skipg rfl rfl rfl rfl rfl rfl ?_
      refine Gx.val rfl rfl rfl (val_pickT rfl rfl rfl) ?_
      refine Gx.val rfl rfl rfl (val_assign rfl rfl) ?_
      refine Gx.done ?_
      refine Gx.thenN ?_
      exact Gx.fam true (by unfold baseB; first | exact (decide_eq_true (by omega)).symm | exact decide_eq_decide.2 (by omega) | exact (decide_eq_false (by omega)).symm) ((.cons rfl (.cons rfl (.cons rfl (.cons rfl .nil))))) rfl
    refine Gx.valg rfl rfl rfl rfl rfl (Val.cast (val_fieldAddr rfl Try.underlying27 rfl Try.ty24 rfl rfl) (v' := ptr b2 1) rfl) ?_
    refine Gx.valg rfl rfl rfl rfl rfl (Val.cast (val_fieldAddr rfl Try.underlying24 rfl Try.ty2 rfl rfl) (v' := ptr b2 3) rfl) ?_
    refine Gx.valg rfl rfl rfl rfl rfl (val_load rfl Try.ty2 rfl rfl (cell_rec (k := 0) rfl rfl)) ?_
    refine Gx.valg rfl rfl rfl rfl rfl (val_call (vs := [.int .i64 s.val]) rfl Try.fn30 rfl (fun w H => within_any s.val)) ?_
    refine Gx.valg rfl rfl rfl rfl rfl (val_notD rfl rfl) ?_
    refine Gx.val rfl rfl rfl (val_pickF rfl rfl rfl) ?_
    refine Gx.val rfl rfl rfl (val_move rfl rfl) ?_
    refine Gx.cases (t := 29) rfl (fun h5 => ?_) (fun h5 => ?_)
    · refine Gx.skipg rfl rfl rfl rfl rfl rfl ?_
      refine Gx.skipg rfl rfl rfl rfl rfl rfl ?_
      refine Gx.skipg rfl rfl rfl rfl rfl rfl ?_
      refine Gx.skipg rfl rfl rfl rfl rfl rfl ?_
      refine Gx.val rfl rfl rfl (val_pickT rfl rfl rfl) ?_
      refine Gx.val rfl rfl rfl (val_move rfl rfl) ?_
      refine Gx.skipg rfl rfl rfl rfl rfl rfl ?_
      refine Gx.skipg rfl rfl rfl rfl rfl rfl ?_
      refine Gx.skipg rfl rfl rfl rfl rfl rfl ?_
      refine Gx.skipg rfl rfl rfl rfl rfl rfl ?_
      refine Gx.val rfl rfl rfl (val_pickT rfl rfl rfl) ?_
      refine Gx.val rfl rfl rfl (val_move rfl rfl) ?_
      refine Gx.skipg rfl rfl rfl rfl rfl rfl ?_
      refine Gx.skipg rfl rfl rfl rfl rfl rfl ?_
      refine Gx.skipg rfl rfl rfl rfl rfl rfl ?_
      refine Gx.skipg rfl rfl rfl rfl rfl rfl ?_
      refine Gx.skipg rfl rfl rfl rfl rfl rfl ?_
      refine Gx.skipg rfl rfl rfl rfl rfl rfl ?_
      refine Gx.val rfl rfl rfl (val_pickT rfl rfl rfl) ?_
      refine Gx.val rfl rfl rfl (val_assign rfl rfl) ?_
      refine Gx.done ?_
      refine Gx.thenN ?_
      exact Gx.fam true (by unfold baseB; first | exact (decide_eq_true (by omega)).symm | exact decide_eq_decide.2 (by omega) | exact (decide_eq_false (by omega)).symm) ((.cons rfl (.cons rfl (.cons rfl (.cons rfl .nil))))) rfl
    refine Gx.valg rfl rfl rfl rfl rfl (Val.cast (val_fieldAddr rfl Try.underlying27 rfl Try.ty24 rfl rfl) (v' := ptr b2 1) rfl) ?_
    refine Gx.valg rfl rfl rfl rfl rfl (Val.cast (val_fieldAddr rfl Try.underlying24 rfl Try.ty3 rfl rfl) (v' := ptr b2 1) rfl) ?_
    refine Gx.valg rfl rfl rfl rfl rfl (val_load rfl Try.ty3 rfl rfl (cell_rec (k := 0) rfl rfl)) ?_
    refine Gx.valg rfl rfl rfl rfl rfl (val_lss rfl rfl rfl) ?_
    refine Gx.val rfl rfl rfl (val_pickF rfl rfl rfl) ?_
    refine Gx.val rfl rfl rfl (val_move rfl rfl) ?_
    refine Gx.cases (t := 35) rfl (fun h6 => ?_) (fun h6 => ?_)
    · refine Gx.skipg rfl rfl rfl rfl rfl rfl ?_
      refine Gx.skipg rfl rfl rfl rfl rfl rfl ?_
      refine Gx.skipg rfl rfl rfl rfl rfl rfl ?_
      refine Gx.skipg rfl rfl rfl rfl rfl rfl ?_
      refine Gx.val rfl rfl rfl (val_pickT rfl rfl rfl) ?_
      refine Gx.val rfl rfl rfl (val_move rfl rfl) ?_
      refine Gx.skipg rfl rfl rfl rfl rfl rfl ?_
      refine Gx.skipg rfl rfl rfl rfl rfl rfl ?_
      refine Gx.skipg rfl rfl rfl rfl rfl rfl ?_
      refine Gx.skipg rfl rfl rfl rfl rfl rfl ?_
      refine Gx.skipg rfl rfl rfl rfl rfl rfl ?_
      refine Gx.skipg rfl rfl rfl rfl rfl rfl ?_
      refine Gx.val rfl rfl rfl (val_pickT rfl rfl rfl) ?_
      refine Gx.val rfl rfl rfl (val_assign rfl rfl) ?_
      refine Gx.done ?_
      refine Gx.thenN ?_
      exact Gx.fam true (by unfold baseB; first | exact (decide_eq_true (by omega)).symm | exact decide_eq_decide.2 (by omega) | exact (decide_eq_false (by omega)).symm) ((.cons rfl (.cons rfl (.cons rfl (.cons rfl .nil))))) rfl
    refine Gx.valg rfl rfl rfl rfl rfl (Val.cast (val_fieldAddr rfl Try.underlying27 rfl Try.ty24 rfl rfl) (v' := ptr b2 1) rfl) ?_
    refine Gx.valg rfl rfl rfl rfl rfl (Val.cast (val_fieldAddr rfl Try.underlying24 rfl Try.ty3 rfl rfl) (v' := ptr b2 1) rfl) ?_
    refine Gx.valg rfl rfl rfl rfl rfl (val_load rfl Try.ty3 rfl rfl (cell_rec (k := 0) rfl rfl)) ?_
    refine Gx.valg rfl rfl rfl rfl rfl (val_gtr rfl rfl rfl) ?_
    refine Gx.val rfl rfl rfl (val_pickF rfl rfl rfl) ?_
    refine Gx.val rfl rfl rfl (val_move rfl rfl) ?_
    refine Gx.cases (t := 41) rfl (fun h7 => ?_) (fun h7 => ?_)
    · refine Gx.skipg rfl rfl rfl rfl rfl rfl ?_
      refine Gx.skipg rfl rfl rfl rfl rfl rfl ?_
      refine Gx.skipg rfl rfl rfl rfl rfl rfl ?_
      refine Gx.skipg rfl rfl rfl rfl rfl rfl ?_
      refine Gx.skipg rfl rfl rfl rfl rfl rfl ?_
      refine Gx.skipg rfl rfl rfl rfl rfl rfl ?_
      refine Gx.val rfl rfl rfl (val_pickT rfl rfl rfl) ?_
      refine Gx.val rfl rfl rfl (val_assign rfl rfl) ?_
      refine Gx.done ?_
      refine Gx.thenN ?_
      exact Gx.fam true (by unfold baseB; first | exact (decide_eq_true (by omega)).symm | exact decide_eq_decide.2 (by omega) | exact (decide_eq_false (by omega)).symm) ((.cons rfl (.cons rfl (.cons rfl (.cons rfl .nil))))) rfl
    refine Gx.valg rfl rfl rfl rfl rfl (val_move rfl rfl) ?_
    refine Gx.valg rfl rfl rfl rfl rfl (Val.cast (val_fieldAddr rfl Try.underlying27 rfl Try.ty24 rfl rfl) (v' := ptr b2 1) rfl) ?_
    refine Gx.valg rfl rfl rfl rfl rfl (Val.cast (val_fieldAddr rfl Try.underlying24 rfl Try.ty3 rfl rfl) (v' := ptr b2 2) rfl) ?_
    refine Gx.valg rfl rfl rfl rfl rfl (val_load rfl Try.ty3 rfl rfl (cell_rec (k := 0) rfl rfl)) ?_
    refine Gx.valg rfl rfl rfl rfl rfl (val_callV (vs := [.int .i64 s.who]) (fs := []) (cs := [ptr b1 0]) rfl Try.fn29 rfl rfl (fun w H => check1_any (n := n) (H.at_ (k := 1) rfl).rec_.1 ((H.at_ (k := 1) rfl).cell 0 rfl))) ?_
    refine Gx.valg rfl rfl rfl rfl rfl (val_notD rfl rfl) ?_
    refine Gx.val rfl rfl rfl (val_pickF rfl rfl rfl) ?_
    refine Gx.val rfl rfl rfl (val_assign rfl rfl) ?_
    refine Gx.done ?_
    refine Gx.thenN ?_
    exact Gx.fam (decide (¬(0 ≤ s.who ∧ s.who < n))) (by unfold baseB; first | exact (decide_eq_true (by omega)).symm | exact decide_eq_decide.2 (by omega) | exact (decide_eq_false (by omega)).symm) ((.cons rfl (.cons rfl (.cons rfl (.cons rfl .nil))))) rfl
  rintro bz0 hb0
  refine Gx.know (m' := [(2, ptr b1 0), (3, ptr b2 0), (5, .func (.func 29) #[] #[ptr b1 0]), (6, .bool bz0)]) (.cons rfl (.cons rfl (.cons rfl (.cons rfl .nil)))) (Gx.norm (l' := [Hp.rec_ b2 [cv, .int .i64 s.n, .int .i64 s.who, .int .i64 s.val, av, gv], Hp.rec_ b1 [.int .i64 n]]) rfl ?_)
  refine Gx.seq ?_
  refine Gx.seq ?_
  refine Gx.region ?_
  refine Gx.val rfl rfl rfl (Val.cast (val_fieldAddr rfl Try.underlying27 rfl Try.ty22 rfl rfl) (v' := ptr b2 0) rfl) ?_
  refine Gx.val rfl rfl rfl (val_load rfl Try.ty22 rfl rfl (cell_rec (k := 0) rfl rfl)) ?_
  refine Gx.val rfl rfl rfl (val_len rfl Try.underlying22 rfl (len_base hc)) ?_
  refine Gx.val rfl rfl rfl (val_move rfl rfl) ?_
  refine Gx.done ?_
  refine Gx.thenN ?_
  refine Gx.block ?_
  refine Gx.loop (ι := Nat × Bool) (fun ξ => (ξ.1 ≤ xc.length) ∧ (ξ.2 = (baseB n xc.length s || (xc.take ξ.1).any badV))) (fun ξ => [(2, ptr b1 0), (3, ptr b2 0), (5, .func (.func 29) #[] #[ptr b1 0]), (50, cv), (51, .int .i64 ((xc.length : Nat) : Int)), (6, .bool ξ.2), (52, .int .i64 ((ξ.1 : Nat) : Int))]) (fun ξ => [Hp.rec_ b2 [cv, .int .i64 s.n, .int .i64 s.who, .int .i64 s.val, av, gv], Hp.rec_ b1 [.int .i64 n]]) (fun ξ => xc.length - ξ.1) (0, bz0) ⟨by first | omega | (dsimp only; omega), by rw [hb0, List.take_zero, List.any_nil, Bool.or_false]⟩ ((.cons rfl (.cons rfl (.cons rfl (.cons rfl (.cons rfl (.cons rfl (.cons rfl .nil)))))))) rfl ?_
  rintro ⟨k, bz1⟩ ⟨hk, hb1⟩
  dsimp only at hk hb1
  refine Gx.know (m' := [(2, ptr b1 0), (3, ptr b2 0), (5, .func (.func 29) #[] #[ptr b1 0]), (50, cv), (51, .int .i64 ((xc.length : Nat) : Int)), (6, .bool bz1), (52, .int .i64 ((k : Nat) : Int))]) (.cons rfl (.cons rfl (.cons rfl (.cons rfl (.cons rfl (.cons rfl (.cons rfl .nil))))))) (Gx.norm (l' := [Hp.rec_ b2 [cv, .int .i64 s.n, .int .i64 s.who, .int .i64 s.val, av, gv], Hp.rec_ b1 [.int .i64 n]]) rfl ?_)
  refine Gx.seq ?_
  refine Gx.region ?_
  refine Gx.val rfl rfl rfl (val_lss rfl rfl rfl) ?_
  refine Gx.done ?_
  refine Gx.thenN ?_
  refine Gx.seq ?_
  refine Gx.dec rfl (fun h8 => ?_) (fun h8 => ?_)
  · refine Gx.skip ?_
    refine Gx.thenN ?_
    refine Gx.seq ?_
    refine Gx.block ?_
    refine Gx.seq ?_
    refine Gx.region ?_
    obtain ⟨x9, hx9⟩ := get_of_lt (xs := xc) (k := k) (by omega)
    refine Gx.val rfl rfl rfl (val_ixa rfl Try.underlying22 Try.ty2 rfl rfl (j := k) (rfl) (reach_base hc hx9)) ?_
    refine Gx.val rfl rfl rfl (val_load rfl Try.ty2 rfl rfl (cell_base (i := 0) hc hx9 rfl)) ?_
    refine Gx.val rfl rfl rfl (val_assign rfl rfl) ?_
    refine Gx.done ?_
    refine Gx.thenN ?_
    refine Gx.region ?_
    refine Gx.val rfl rfl rfl (val_move rfl rfl) ?_
    refine Gx.val rfl rfl rfl (val_move rfl rfl) ?_
    refine Gx.casesB (t := 57) rfl (fun h10 => ?_) (fun h10 => ?_)
    · refine Gx.skipg rfl rfl rfl rfl rfl rfl ?_
      refine Gx.skipg rfl rfl rfl rfl rfl rfl ?_
      refine Gx.val rfl rfl rfl (val_pickT rfl rfl rfl) ?_
      refine Gx.val rfl rfl rfl (val_move rfl rfl) ?_
      refine Gx.skipg rfl rfl rfl rfl rfl rfl ?_
      refine Gx.skipg rfl rfl rfl rfl rfl rfl ?_
      refine Gx.skipg rfl rfl rfl rfl rfl rfl ?_
      refine Gx.val rfl rfl rfl (val_pickT rfl rfl rfl) ?_
      refine Gx.val rfl rfl rfl (val_assign rfl rfl) ?_
      refine Gx.done ?_
      refine Gx.blkN ?_
      refine Gx.thenN ?_
      refine Gx.region ?_
      refine Gx.val rfl rfl rfl (val_add rfl rfl rfl (r := ((k + 1 : Nat) : Int)) (w64 (by omega) (by omega))) ?_
      refine Gx.val rfl rfl rfl (val_move rfl rfl) ?_
      refine Gx.done ?_
      refine Gx.thenN ?_
      exact Gx.round (k + 1, true) ⟨by first | omega | (dsimp only; omega), by rw [take_snoc9 hx9, List.any_append, ← Bool.or_assoc, ← hb1, h10]; first | rfl | (simp only [List.any_cons, List.any_nil, Bool.or_false, Bool.false_or]; unfold badV; first | exact (decide_eq_true (by omega)).symm | exact decide_eq_decide.2 (by omega) | exact (decide_eq_false (by omega)).symm)⟩ (by first | omega | (dsimp only; omega)) ((.cons rfl (.cons rfl (.cons rfl (.cons rfl (.cons rfl (.cons rfl (.cons rfl .nil)))))))) rfl
    refine Gx.valg rfl rfl rfl rfl rfl (val_move rfl rfl) ?_
    refine Gx.valg rfl rfl rfl rfl rfl (val_lss rfl rfl rfl) ?_
    refine Gx.val rfl rfl rfl (val_pickF rfl rfl rfl) ?_
    refine Gx.val rfl rfl rfl (val_move rfl rfl) ?_
    refine Gx.cases (t := 61) rfl (fun h11 => ?_) (fun h11 => ?_)
    · refine Gx.skipg rfl rfl rfl rfl rfl rfl ?_
      refine Gx.skipg rfl rfl rfl rfl rfl rfl ?_
      refine Gx.skipg rfl rfl rfl rfl rfl rfl ?_
      refine Gx.val rfl rfl rfl (val_pickT rfl rfl rfl) ?_
      refine Gx.val rfl rfl rfl (val_assign rfl rfl) ?_
      refine Gx.done ?_
      refine Gx.blkN ?_
      refine Gx.thenN ?_
      refine Gx.region ?_
      refine Gx.val rfl rfl rfl (val_add rfl rfl rfl (r := ((k + 1 : Nat) : Int)) (w64 (by omega) (by omega))) ?_
      refine Gx.val rfl rfl rfl (val_move rfl rfl) ?_
      refine Gx.done ?_
      refine Gx.thenN ?_
      exact Gx.round (k + 1, true) ⟨by first | omega | (dsimp only; omega), by rw [take_snoc9 hx9, List.any_append, ← Bool.or_assoc, ← hb1, h10]; first | rfl | (simp only [List.any_cons, List.any_nil, Bool.or_false, Bool.false_or]; unfold badV; first | exact (decide_eq_true (by omega)).symm | exact decide_eq_decide.2 (by omega) | exact (decide_eq_false (by omega)).symm)⟩ (by first | omega | (dsimp only; omega)) ((.cons rfl (.cons rfl (.cons rfl (.cons rfl (.cons rfl (.cons rfl (.cons rfl .nil)))))))) rfl
    refine Gx.valg rfl rfl rfl rfl rfl (val_move rfl rfl) ?_
    refine Gx.valg rfl rfl rfl rfl rfl (val_call (vs := [.int .i64 x9]) rfl Try.fn30 rfl (fun w H => within_any x9)) ?_
    refine Gx.valg rfl rfl rfl rfl rfl (val_notD rfl rfl) ?_
    refine Gx.val rfl rfl rfl (val_pickF rfl rfl rfl) ?_
    refine Gx.val rfl rfl rfl (val_assign rfl rfl) ?_
    refine Gx.done ?_
    refine Gx.blkN ?_
    refine Gx.thenN ?_
    refine Gx.region ?_
    refine Gx.val rfl rfl rfl (val_add rfl rfl rfl (r := ((k + 1 : Nat) : Int)) (w64 (by omega) (by omega))) ?_
    refine Gx.val rfl rfl rfl (val_move rfl rfl) ?_
    refine Gx.done ?_
    refine Gx.thenN ?_
    exact Gx.round (k + 1, decide (¬(-1099511627776 ≤ x9 ∧ x9 ≤ 1099511627776))) ⟨by first | omega | (dsimp only; omega), by rw [take_snoc9 hx9, List.any_append, ← Bool.or_assoc, ← hb1, h10]; first | rfl | (simp only [List.any_cons, List.any_nil, Bool.or_false, Bool.false_or]; unfold badV; first | exact (decide_eq_true (by omega)).symm | exact decide_eq_decide.2 (by omega) | exact (decide_eq_false (by omega)).symm)⟩ (by first | omega | (dsimp only; omega)) ((.cons rfl (.cons rfl (.cons rfl (.cons rfl (.cons rfl (.cons rfl (.cons rfl .nil)))))))) rfl
  refine Gx.exit ?_
  refine Gx.thenE ?_
  refine Gx.thenE ?_
  refine Gx.blkE ?_
  refine Gx.thenN ?_
  refine Gx.seq ?_
  refine Gx.seq ?_
  refine Gx.region ?_
  refine Gx.val rfl rfl rfl (Val.cast (val_fieldAddr rfl Try.underlying27 rfl Try.ty25 rfl rfl) (v' := ptr b2 4) rfl) ?_
  refine Gx.val rfl rfl rfl (val_load rfl Try.ty25 rfl rfl (cell_rec (k := 0) rfl rfl)) ?_
  refine Gx.val rfl rfl rfl (Val.cast (val_fieldAddr rfl Try.underlying27 rfl Try.ty25 rfl rfl) (v' := ptr b2 5) rfl) ?_
  refine Gx.val rfl rfl rfl (val_load rfl Try.ty25 rfl rfl (cell_rec (k := 0) rfl rfl)) ?_
  refine Gx.val rfl rfl rfl (val_build rfl (qs := [(0, av), (1, gv)]) rfl rfl (fun w => by obtain ⟨_, _, _, rfl⟩ := ha.isS; obtain ⟨_, _, _, rfl⟩ := hg.isS; go_simp) (v := .agg #[av, gv])) ?_
  refine Gx.val rfl rfl rfl (val_move rfl rfl) ?_
  refine Gx.done ?_
  refine Gx.thenN ?_
  refine Gx.block ?_
  refine Gx.loop (ι := Nat × Bool) (fun ξ => (ξ.1 ≤ 2) ∧ (ξ.2 = bO (baseB n xc.length s || xc.any badV) n xa xg ξ.1)) (fun ξ => [(2, ptr b1 0), (3, ptr b2 0), (5, .func (.func 29) #[] #[ptr b1 0]), (71, .agg #[av, gv]), (6, .bool ξ.2), (72, .int .i64 ((ξ.1 : Nat) : Int))]) (fun ξ => [Hp.rec_ b2 [cv, .int .i64 s.n, .int .i64 s.who, .int .i64 s.val, av, gv], Hp.rec_ b1 [.int .i64 n]]) (fun ξ => 2 - ξ.1) (0, bz1) ⟨by first | omega | (dsimp only; omega), by rw [hb1, List.take_of_length_le (by omega)]; rfl⟩ ((.cons rfl (.cons rfl (.cons rfl (.cons rfl (.cons rfl (.cons rfl .nil))))))) rfl ?_
  rintro ⟨q, bz2⟩ ⟨hq, hb2⟩
  dsimp only at hq hb2
  refine Gx.know (m' := [(2, ptr b1 0), (3, ptr b2 0), (5, .func (.func 29) #[] #[ptr b1 0]), (71, .agg #[av, gv]), (6, .bool bz2), (72, .int .i64 ((q : Nat) : Int))]) (.cons rfl (.cons rfl (.cons rfl (.cons rfl (.cons rfl (.cons rfl .nil)))))) (Gx.norm (l' := [Hp.rec_ b2 [cv, .int .i64 s.n, .int .i64 s.who, .int .i64 s.val, av, gv], Hp.rec_ b1 [.int .i64 n]]) rfl ?_)
  rcases (show q = 0 ∨ q = 1 ∨ q = 2 from by omega) with rfl | rfl | rfl
  · refine Gx.know (m' := [(2, ptr b1 0), (3, ptr b2 0), (5, .func (.func 29) #[] #[ptr b1 0]), (71, .agg #[av, gv]), (6, .bool bz2), (72, .int .i64 0)]) (.cons rfl (.cons rfl (.cons rfl (.cons rfl (.cons rfl (.cons rfl .nil)))))) (Gx.norm (l' := [Hp.rec_ b2 [cv, .int .i64 s.n, .int .i64 s.who, .int .i64 s.val, av, gv], Hp.rec_ b1 [.int .i64 n]]) rfl ?_)
    refine Gx.seq ?_
    refine Gx.region ?_
    refine Gx.val rfl rfl rfl (Val.cast (val_lss rfl rfl rfl) (v' := .bool true) rfl) ?_
    refine Gx.done ?_
    refine Gx.thenN ?_
    refine Gx.seq ?_
    refine Gx.t rfl ?_
    refine Gx.skip ?_
    refine Gx.thenN ?_
    refine Gx.seq ?_
    refine Gx.block ?_
    refine Gx.seq ?_
    refine Gx.region ?_
    refine Gx.val rfl rfl rfl (val_index (i := 0) rfl Try.underlying66 Try.ty25 rfl rfl rfl rfl (by decide) rfl) ?_
    refine Gx.val rfl rfl rfl (val_assign rfl rfl) ?_
    refine Gx.done ?_
    refine Gx.thenN ?_
    refine Gx.seq ?_
    refine Gx.region ?_
    refine Gx.val rfl rfl rfl (val_move rfl rfl) ?_
    refine Gx.val rfl rfl rfl (val_len rfl Try.underlying25 rfl (len_base ha)) ?_
    refine Gx.val rfl rfl rfl (val_move rfl rfl) ?_
    refine Gx.done ?_
    refine Gx.thenN ?_
    refine Gx.block ?_
    refine Gx.loop (ι := Nat × Bool) (fun ξ => (ξ.1 ≤ xa.length) ∧ (ξ.2 = (bO (baseB n xc.length s || xc.any badV) n xa xg 0 || (xa.take ξ.1).any (badD n)))) (fun ξ => [(2, ptr b1 0), (3, ptr b2 0), (5, .func (.func 29) #[] #[ptr b1 0]), (71, .agg #[av, gv]), (72, .int .i64 0), (75, av), (76, .int .i64 ((xa.length : Nat) : Int)), (6, .bool ξ.2), (77, .int .i64 ((ξ.1 : Nat) : Int))]) (fun ξ => [Hp.rec_ b2 [cv, .int .i64 s.n, .int .i64 s.who, .int .i64 s.val, av, gv], Hp.rec_ b1 [.int .i64 n]]) (fun ξ => xa.length - ξ.1) (0, bz2) ⟨by first | omega | (dsimp only; omega), by rw [hb2, List.take_zero, List.any_nil, Bool.or_false]⟩ ((.cons rfl (.cons rfl (.cons rfl (.cons rfl (.cons rfl (.cons rfl (.cons rfl (.cons rfl (.cons rfl .nil)))))))))) rfl ?_
    rintro ⟨k3, bz3⟩ ⟨hk3, hb3⟩
    dsimp only at hk3 hb3
    refine Gx.know (m' := [(2, ptr b1 0), (3, ptr b2 0), (5, .func (.func 29) #[] #[ptr b1 0]), (71, .agg #[av, gv]), (72, .int .i64 0), (75, av), (76, .int .i64 ((xa.length : Nat) : Int)), (6, .bool bz3), (77, .int .i64 ((k3 : Nat) : Int))]) (.cons rfl (.cons rfl (.cons rfl (.cons rfl (.cons rfl (.cons rfl (.cons rfl (.cons rfl (.cons rfl .nil))))))))) (Gx.norm (l' := [Hp.rec_ b2 [cv, .int .i64 s.n, .int .i64 s.who, .int .i64 s.val, av, gv], Hp.rec_ b1 [.int .i64 n]]) rfl ?_)
    refine Gx.seq ?_
    refine Gx.region ?_
    refine Gx.val rfl rfl rfl (val_lss rfl rfl rfl) ?_
    refine Gx.done ?_
    refine Gx.thenN ?_
    refine Gx.seq ?_
    refine Gx.dec rfl (fun h12 => ?_) (fun h12 => ?_)
    · refine Gx.skip ?_
      refine Gx.thenN ?_
      refine Gx.seq ?_
      refine Gx.block ?_
      refine Gx.seq ?_
      refine Gx.region ?_
      obtain ⟨x13, hx13⟩ := get_of_lt (xs := xa) (k := k3) (by omega)
      refine Gx.val rfl rfl rfl (val_ixa rfl Try.underlying25 Try.ty59 rfl rfl (j := k3) (rfl) (reach_base ha hx13)) ?_
      refine Gx.val rfl rfl rfl (Val.cast (val_loadA rfl Try.ty59 rfl rfl rfl (cells_base ha hx13)) (v' := .agg #[.int .i64 x13.item, .int .i64 x13.who, .int .i64 x13.n]) rfl) ?_
      refine Gx.eff rfl rfl rfl (eff_alloc rfl Try.ty59 (vs := [.int .i64 0, .int .i64 0, .int .i64 0]) rfl) ?_
      rintro _ _ ⟨b14, rfl, rfl⟩
      refine Gx.eff0 rfl rfl (eff_store rfl Try.ty59 rfl rfl (us := [.int .i64 x13.item, .int .i64 x13.who, .int .i64 x13.n]) rfl rfl rfl (k := 0) rfl (rfl) (vs' := [.int .i64 x13.item, .int .i64 x13.who, .int .i64 x13.n]) (rfl) (l' := [Hp.rec_ b14 [.int .i64 x13.item, .int .i64 x13.who, .int .i64 x13.n], Hp.rec_ b2 [cv, .int .i64 s.n, .int .i64 s.who, .int .i64 s.val, av, gv], Hp.rec_ b1 [.int .i64 n]]) rfl) ?_
      rintro _ _ rfl
      refine Gx.done ?_
      refine Gx.thenN ?_
      refine Gx.region ?_
      refine Gx.val rfl rfl rfl (val_move rfl rfl) ?_
      refine Gx.val rfl rfl rfl (val_move rfl rfl) ?_
      refine Gx.casesB (t := 82) rfl (fun h15 => ?_) (fun h15 => ?_)
      · refine Gx.skipg rfl rfl rfl rfl rfl rfl ?_
        refine Gx.skipg rfl rfl rfl rfl rfl rfl ?_
        refine Gx.skipg rfl rfl rfl rfl rfl rfl ?_
        refine Gx.val rfl rfl rfl (val_pickT rfl rfl rfl) ?_
        refine Gx.val rfl rfl rfl (val_move rfl rfl) ?_
        refine Gx.skipg rfl rfl rfl rfl rfl rfl ?_
        refine Gx.skipg rfl rfl rfl rfl rfl rfl ?_
        refine Gx.skipg rfl rfl rfl rfl rfl rfl ?_
        refine Gx.val rfl rfl rfl (val_pickT rfl rfl rfl) ?_
        refine Gx.val rfl rfl rfl (val_move rfl rfl) ?_
        refine Gx.skipg rfl rfl rfl rfl rfl rfl ?_
        refine Gx.skipg rfl rfl rfl rfl rfl rfl ?_
        refine Gx.skipg rfl rfl rfl rfl rfl rfl ?_
        refine Gx.skipg rfl rfl rfl rfl rfl rfl ?_
        refine Gx.skipg rfl rfl rfl rfl rfl rfl ?_
        refine Gx.val rfl rfl rfl (val_pickT rfl rfl rfl) ?_
        refine Gx.val rfl rfl rfl (val_move rfl rfl) ?_
        refine Gx.skipg rfl rfl rfl rfl rfl rfl ?_
        refine Gx.skipg rfl rfl rfl rfl rfl rfl ?_
        refine Gx.skipg rfl rfl rfl rfl rfl rfl ?_
        refine Gx.val rfl rfl rfl (val_pickT rfl rfl rfl) ?_
        refine Gx.val rfl rfl rfl (val_assign rfl rfl) ?_
        refine Gx.done ?_
        refine Gx.blkN ?_
        refine Gx.thenN ?_
        refine Gx.region ?_
        refine Gx.val rfl rfl rfl (val_add rfl rfl rfl (r := ((k3 + 1 : Nat) : Int)) (w64 (by omega) (by omega))) ?_
        refine Gx.val rfl rfl rfl (val_move rfl rfl) ?_
        refine Gx.done ?_
        refine Gx.thenN ?_
        refine Gx.drop 0 rfl ?_
        exact Gx.round (k3 + 1, true) ⟨by first | omega | (dsimp only; omega), by rw [take_snoc9 hx13, List.any_append, ← Bool.or_assoc, ← hb3, h15]; first | rfl | (simp only [List.any_cons, List.any_nil, Bool.or_false, Bool.false_or]; unfold badD; first | exact (decide_eq_true (by omega)).symm | exact decide_eq_decide.2 (by omega) | exact (decide_eq_false (by omega)).symm)⟩ (by first | omega | (dsimp only; omega)) ((.cons rfl (.cons rfl (.cons rfl (.cons rfl (.cons rfl (.cons rfl (.cons rfl (.cons rfl (.cons rfl .nil)))))))))) rfl
      refine Gx.valg rfl rfl rfl rfl rfl (Val.cast (val_fieldAddr rfl Try.underlying59 rfl Try.ty3 rfl rfl) (v' := ptr b14 0) rfl) ?_
      refine Gx.valg rfl rfl rfl rfl rfl (val_load rfl Try.ty3 rfl rfl (cell_rec (k := 0) rfl rfl)) ?_
      refine Gx.valg rfl rfl rfl rfl rfl (val_lss rfl rfl rfl) ?_
      refine Gx.val rfl rfl rfl (val_pickF rfl rfl rfl) ?_
      refine Gx.val rfl rfl rfl (val_move rfl rfl) ?_
      refine Gx.cases (t := 87) rfl (fun h16 => ?_) (fun h16 => ?_)
      · refine Gx.skipg rfl rfl rfl rfl rfl rfl ?_
        refine Gx.skipg rfl rfl rfl rfl rfl rfl ?_
        refine Gx.skipg rfl rfl rfl rfl rfl rfl ?_
        refine Gx.val rfl rfl rfl (val_pickT rfl rfl rfl) ?_
        refine Gx.val rfl rfl rfl (val_move rfl rfl) ?_
        refine Gx.skipg rfl rfl rfl rfl rfl rfl ?_
        refine Gx.skipg rfl rfl rfl rfl rfl rfl ?_
        refine Gx.skipg rfl rfl rfl rfl rfl rfl ?_
        refine Gx.skipg rfl rfl rfl rfl rfl rfl ?_
        refine Gx.skipg rfl rfl rfl rfl rfl rfl ?_
        refine Gx.val rfl rfl rfl (val_pickT rfl rfl rfl) ?_
        refine Gx.val rfl rfl rfl (val_move rfl rfl) ?_
        refine Gx.skipg rfl rfl rfl rfl rfl rfl ?_
        refine Gx.skipg rfl rfl rfl rfl rfl rfl ?_
        refine Gx.skipg rfl rfl rfl rfl rfl rfl ?_
        refine Gx.val rfl rfl rfl (val_pickT rfl rfl rfl) ?_
        refine Gx.val rfl rfl rfl (val_assign rfl rfl) ?_
        refine Gx.done ?_
        refine Gx.blkN ?_
        refine Gx.thenN ?_
        refine Gx.region ?_
        refine Gx.val rfl rfl rfl (val_add rfl rfl rfl (r := ((k3 + 1 : Nat) : Int)) (w64 (by omega) (by omega))) ?_
        refine Gx.val rfl rfl rfl (val_move rfl rfl) ?_
        refine Gx.done ?_
        refine Gx.thenN ?_
        refine Gx.drop 0 rfl ?_
        exact Gx.round (k3 + 1, true) ⟨by first | omega | (dsimp only; omega), by rw [take_snoc9 hx13, List.any_append, ← Bool.or_assoc, ← hb3, h15]; first | rfl | (simp only [List.any_cons, List.any_nil, Bool.or_false, Bool.false_or]; unfold badD; first | exact (decide_eq_true (by omega)).symm | exact decide_eq_decide.2 (by omega) | exact (decide_eq_false (by omega)).symm)⟩ (by first | omega | (dsimp only; omega)) ((.cons rfl (.cons rfl (.cons rfl (.cons rfl (.cons rfl (.cons rfl (.cons rfl (.cons rfl (.cons rfl .nil)))))))))) rfl
      refine Gx.valg rfl rfl rfl rfl rfl (Val.cast (val_fieldAddr rfl Try.underlying59 rfl Try.ty3 rfl rfl) (v' := ptr b14 0) rfl) ?_
      refine Gx.valg rfl rfl rfl rfl rfl (val_load rfl Try.ty3 rfl rfl (cell_rec (k := 0) rfl rfl)) ?_
      refine Gx.valg rfl rfl rfl rfl rfl (val_geq rfl rfl rfl) ?_
      refine Gx.val rfl rfl rfl (val_pickF rfl rfl rfl) ?_
      refine Gx.val rfl rfl rfl (val_move rfl rfl) ?_
      refine Gx.cases (t := 92) rfl (fun h17 => ?_) (fun h17 => ?_)
      · refine Gx.skipg rfl rfl rfl rfl rfl rfl ?_
        refine Gx.skipg rfl rfl rfl rfl rfl rfl ?_
        refine Gx.skipg rfl rfl rfl rfl rfl rfl ?_
        refine Gx.skipg rfl rfl rfl rfl rfl rfl ?_
        refine Gx.skipg rfl rfl rfl rfl rfl rfl ?_
        refine Gx.val rfl rfl rfl (val_pickT rfl rfl rfl) ?_
        refine Gx.val rfl rfl rfl (val_move rfl rfl) ?_
        refine Gx.skipg rfl rfl rfl rfl rfl rfl ?_
        refine Gx.skipg rfl rfl rfl rfl rfl rfl ?_
        refine Gx.skipg rfl rfl rfl rfl rfl rfl ?_
        refine Gx.val rfl rfl rfl (val_pickT rfl rfl rfl) ?_
        refine Gx.val rfl rfl rfl (val_assign rfl rfl) ?_
        refine Gx.done ?_
        refine Gx.blkN ?_
        refine Gx.thenN ?_
        refine Gx.region ?_
        refine Gx.val rfl rfl rfl (val_add rfl rfl rfl (r := ((k3 + 1 : Nat) : Int)) (w64 (by omega) (by omega))) ?_
        refine Gx.val rfl rfl rfl (val_move rfl rfl) ?_
        refine Gx.done ?_
        refine Gx.thenN ?_
        refine Gx.drop 0 rfl ?_
        exact Gx.round (k3 + 1, true) ⟨by first | omega | (dsimp only; omega), by rw [take_snoc9 hx13, List.any_append, ← Bool.or_assoc, ← hb3, h15]; first | rfl | (simp only [List.any_cons, List.any_nil, Bool.or_false, Bool.false_or]; unfold badD; first | exact (decide_eq_true (by omega)).symm | exact decide_eq_decide.2 (by omega) | exact (decide_eq_false (by omega)).symm)⟩ (by first | omega | (dsimp only; omega)) ((.cons rfl (.cons rfl (.cons rfl (.cons rfl (.cons rfl (.cons rfl (.cons rfl (.cons rfl (.cons rfl .nil)))))))))) rfl
      refine Gx.valg rfl rfl rfl rfl rfl (val_move rfl rfl) ?_
      refine Gx.valg rfl rfl rfl rfl rfl (Val.cast (val_fieldAddr rfl Try.underlying59 rfl Try.ty3 rfl rfl) (v' := ptr b14 1) rfl) ?_
      refine Gx.valg rfl rfl rfl rfl rfl (val_load rfl Try.ty3 rfl rfl (cell_rec (k := 0) rfl rfl)) ?_
      refine Gx.valg rfl rfl rfl rfl rfl (val_callV (vs := [.int .i64 x13.who]) (fs := []) (cs := [ptr b1 0]) rfl Try.fn29 rfl rfl (fun w H => check1_any (n := n) (H.at_ (k := 2) rfl).rec_.1 ((H.at_ (k := 2) rfl).cell 0 rfl))) ?_
      refine Gx.valg rfl rfl rfl rfl rfl (val_notD rfl rfl) ?_
      refine Gx.val rfl rfl rfl (val_pickF rfl rfl rfl) ?_
      refine Gx.val rfl rfl rfl (val_move rfl rfl) ?_
      refine Gx.cases (t := 99) rfl (fun h18 => ?_) (fun h18 => ?_)
      · refine Gx.skipg rfl rfl rfl rfl rfl rfl ?_
        refine Gx.skipg rfl rfl rfl rfl rfl rfl ?_
        refine Gx.skipg rfl rfl rfl rfl rfl rfl ?_
        refine Gx.val rfl rfl rfl (val_pickT rfl rfl rfl) ?_
        refine Gx.val rfl rfl rfl (val_assign rfl rfl) ?_
        refine Gx.done ?_
        refine Gx.blkN ?_
        refine Gx.thenN ?_
        refine Gx.region ?_
        refine Gx.val rfl rfl rfl (val_add rfl rfl rfl (r := ((k3 + 1 : Nat) : Int)) (w64 (by omega) (by omega))) ?_
        refine Gx.val rfl rfl rfl (val_move rfl rfl) ?_
        refine Gx.done ?_
        refine Gx.thenN ?_
        refine Gx.drop 0 rfl ?_
        exact Gx.round (k3 + 1, true) ⟨by first | omega | (dsimp only; omega), by rw [take_snoc9 hx13, List.any_append, ← Bool.or_assoc, ← hb3, h15]; first | rfl | (simp only [List.any_cons, List.any_nil, Bool.or_false, Bool.false_or]; unfold badD; first | exact (decide_eq_true (by omega)).symm | exact decide_eq_decide.2 (by omega) | exact (decide_eq_false (by omega)).symm)⟩ (by first | omega | (dsimp only; omega)) ((.cons rfl (.cons rfl (.cons rfl (.cons rfl (.cons rfl (.cons rfl (.cons rfl (.cons rfl (.cons rfl .nil)))))))))) rfl
      refine Gx.valg rfl rfl rfl rfl rfl (Val.cast (val_fieldAddr rfl Try.underlying59 rfl Try.ty3 rfl rfl) (v' := ptr b14 2) rfl) ?_
      refine Gx.valg rfl rfl rfl rfl rfl (val_load rfl Try.ty3 rfl rfl (cell_rec (k := 0) rfl rfl)) ?_
      refine Gx.valg rfl rfl rfl rfl rfl (val_lss rfl rfl rfl) ?_
      refine Gx.val rfl rfl rfl (val_pickF rfl rfl rfl) ?_
      refine Gx.val rfl rfl rfl (val_assign rfl rfl) ?_
      refine Gx.done ?_
      refine Gx.blkN ?_
      refine Gx.thenN ?_
      refine Gx.region ?_
      refine Gx.val rfl rfl rfl (val_add rfl rfl rfl (r := ((k3 + 1 : Nat) : Int)) (w64 (by omega) (by omega))) ?_
      refine Gx.val rfl rfl rfl (val_move rfl rfl) ?_
      refine Gx.done ?_
      refine Gx.thenN ?_
      refine Gx.drop 0 rfl ?_
      exact Gx.round (k3 + 1, decide (x13.n < 1)) ⟨by first | omega | (dsimp only; omega), by rw [take_snoc9 hx13, List.any_append, ← Bool.or_assoc, ← hb3, h15]; first | rfl | (simp only [List.any_cons, List.any_nil, Bool.or_false, Bool.false_or]; unfold badD; first | exact (decide_eq_true (by omega)).symm | exact decide_eq_decide.2 (by omega) | exact (decide_eq_false (by omega)).symm)⟩ (by first | omega | (dsimp only; omega)) ((.cons rfl (.cons rfl (.cons rfl (.cons rfl (.cons rfl (.cons rfl (.cons rfl (.cons rfl (.cons rfl .nil)))))))))) rfl
    refine Gx.exit ?_
    refine Gx.thenE ?_
    refine Gx.thenE ?_
    refine Gx.blkE ?_
    refine Gx.blkN ?_
    refine Gx.thenN ?_
    refine Gx.region ?_
    refine Gx.val rfl rfl rfl (val_add rfl rfl rfl (r := 1) (w64 (by omega) (by omega))) ?_
    refine Gx.val rfl rfl rfl (val_move rfl rfl) ?_
    refine Gx.done ?_
    refine Gx.thenN ?_
    exact Gx.round (1, bz3) ⟨by first | omega | (dsimp only; omega), by rw [hb3, List.take_of_length_le (by omega)]; rfl⟩ (by first | omega | (dsimp only; omega)) ((.cons rfl (.cons rfl (.cons rfl (.cons rfl (.cons rfl (.cons rfl .nil))))))) rfl
  · refine Gx.know (m' := [(2, ptr b1 0), (3, ptr b2 0), (5, .func (.func 29) #[] #[ptr b1 0]), (71, .agg #[av, gv]), (6, .bool bz2), (72, .int .i64 1)]) (.cons rfl (.cons rfl (.cons rfl (.cons rfl (.cons rfl (.cons rfl .nil)))))) (Gx.norm (l' := [Hp.rec_ b2 [cv, .int .i64 s.n, .int .i64 s.who, .int .i64 s.val, av, gv], Hp.rec_ b1 [.int .i64 n]]) rfl ?_)
    refine Gx.seq ?_
    refine Gx.region ?_
    refine Gx.val rfl rfl rfl (Val.cast (val_lss rfl rfl rfl) (v' := .bool true) rfl) ?_
    refine Gx.done ?_
    refine Gx.thenN ?_
    refine Gx.seq ?_
    refine Gx.t rfl ?_
    refine Gx.skip ?_
    refine Gx.thenN ?_
    refine Gx.seq ?_
    refine Gx.block ?_
    refine Gx.seq ?_
    refine Gx.region ?_
    refine Gx.val rfl rfl rfl (val_index (i := 1) rfl Try.underlying66 Try.ty25 rfl rfl rfl rfl (by decide) rfl) ?_
    refine Gx.val rfl rfl rfl (val_assign rfl rfl) ?_
    refine Gx.done ?_
    refine Gx.thenN ?_
    refine Gx.seq ?_
    refine Gx.region ?_
    refine Gx.val rfl rfl rfl (val_move rfl rfl) ?_
    refine Gx.val rfl rfl rfl (val_len rfl Try.underlying25 rfl (len_base hg)) ?_
    refine Gx.val rfl rfl rfl (val_move rfl rfl) ?_
    refine Gx.done ?_
    refine Gx.thenN ?_
    refine Gx.block ?_
    refine Gx.loop (ι := Nat × Bool) (fun ξ => (ξ.1 ≤ xg.length) ∧ (ξ.2 = (bO (baseB n xc.length s || xc.any badV) n xa xg 1 || (xg.take ξ.1).any (badD n)))) (fun ξ => [(2, ptr b1 0), (3, ptr b2 0), (5, .func (.func 29) #[] #[ptr b1 0]), (71, .agg #[av, gv]), (72, .int .i64 1), (75, gv), (76, .int .i64 ((xg.length : Nat) : Int)), (6, .bool ξ.2), (77, .int .i64 ((ξ.1 : Nat) : Int))]) (fun ξ => [Hp.rec_ b2 [cv, .int .i64 s.n, .int .i64 s.who, .int .i64 s.val, av, gv], Hp.rec_ b1 [.int .i64 n]]) (fun ξ => xg.length - ξ.1) (0, bz2) ⟨by first | omega | (dsimp only; omega), by rw [hb2, List.take_zero, List.any_nil, Bool.or_false]⟩ ((.cons rfl (.cons rfl (.cons rfl (.cons rfl (.cons rfl (.cons rfl (.cons rfl (.cons rfl (.cons rfl .nil)))))))))) rfl ?_
    rintro ⟨k3, bz3⟩ ⟨hk3, hb3⟩
    dsimp only at hk3 hb3
    refine Gx.know (m' := [(2, ptr b1 0), (3, ptr b2 0), (5, .func (.func 29) #[] #[ptr b1 0]), (71, .agg #[av, gv]), (72, .int .i64 1), (75, gv), (76, .int .i64 ((xg.length : Nat) : Int)), (6, .bool bz3), (77, .int .i64 ((k3 : Nat) : Int))]) (.cons rfl (.cons rfl (.cons rfl (.cons rfl (.cons rfl (.cons rfl (.cons rfl (.cons rfl (.cons rfl .nil))))))))) (Gx.norm (l' := [Hp.rec_ b2 [cv, .int .i64 s.n, .int .i64 s.who, .int .i64 s.val, av, gv], Hp.rec_ b1 [.int .i64 n]]) rfl ?_)
    refine Gx.seq ?_
    refine Gx.region ?_
    refine Gx.val rfl rfl rfl (val_lss rfl rfl rfl) ?_
    refine Gx.done ?_
    refine Gx.thenN ?_
    refine Gx.seq ?_
    refine Gx.dec rfl (fun h19 => ?_) (fun h19 => ?_)
    · refine Gx.skip ?_
      refine Gx.thenN ?_
      refine Gx.seq ?_
      refine Gx.block ?_
      refine Gx.seq ?_
      refine Gx.region ?_
      obtain ⟨x20, hx20⟩ := get_of_lt (xs := xg) (k := k3) (by omega)
      refine Gx.val rfl rfl rfl (val_ixa rfl Try.underlying25 Try.ty59 rfl rfl (j := k3) (rfl) (reach_base hg hx20)) ?_
      refine Gx.val rfl rfl rfl (Val.cast (val_loadA rfl Try.ty59 rfl rfl rfl (cells_base hg hx20)) (v' := .agg #[.int .i64 x20.item, .int .i64 x20.who, .int .i64 x20.n]) rfl) ?_
      refine Gx.eff rfl rfl rfl (eff_alloc rfl Try.ty59 (vs := [.int .i64 0, .int .i64 0, .int .i64 0]) rfl) ?_
      rintro _ _ ⟨b21, rfl, rfl⟩
      refine Gx.eff0 rfl rfl (eff_store rfl Try.ty59 rfl rfl (us := [.int .i64 x20.item, .int .i64 x20.who, .int .i64 x20.n]) rfl rfl rfl (k := 0) rfl (rfl) (vs' := [.int .i64 x20.item, .int .i64 x20.who, .int .i64 x20.n]) (rfl) (l' := [Hp.rec_ b21 [.int .i64 x20.item, .int .i64 x20.who, .int .i64 x20.n], Hp.rec_ b2 [cv, .int .i64 s.n, .int .i64 s.who, .int .i64 s.val, av, gv], Hp.rec_ b1 [.int .i64 n]]) rfl) ?_
      rintro _ _ rfl
      refine Gx.done ?_
      refine Gx.thenN ?_
      refine Gx.region ?_
      refine Gx.val rfl rfl rfl (val_move rfl rfl) ?_
      refine Gx.val rfl rfl rfl (val_move rfl rfl) ?_
      refine Gx.casesB (t := 82) rfl (fun h22 => ?_) (fun h22 => ?_)
      · refine Gx.skipg rfl rfl rfl rfl rfl rfl ?_
        refine Gx.skipg rfl rfl rfl rfl rfl rfl ?_
        refine Gx.skipg rfl rfl rfl rfl rfl rfl ?_
        refine Gx.val rfl rfl rfl (val_pickT rfl rfl rfl) ?_
        refine Gx.val rfl rfl rfl (val_move rfl rfl) ?_
        refine Gx.skipg rfl rfl rfl rfl rfl rfl ?_
        refine Gx.skipg rfl rfl rfl rfl rfl rfl ?_
        refine Gx.skipg rfl rfl rfl rfl rfl rfl ?_
        refine Gx.val rfl rfl rfl (val_pickT rfl rfl rfl) ?_
        refine Gx.val rfl rfl rfl (val_move rfl rfl) ?_
        refine Gx.skipg rfl rfl rfl rfl rfl rfl ?_
        refine Gx.skipg rfl rfl rfl rfl rfl rfl ?_
        refine Gx.skipg rfl rfl rfl rfl rfl rfl ?_
        refine Gx.skipg rfl rfl rfl rfl rfl rfl ?_
        refine Gx.skipg rfl rfl rfl rfl rfl rfl ?_
        refine Gx.val rfl rfl rfl (val_pickT rfl rfl rfl) ?_
        refine Gx.val rfl rfl rfl (val_move rfl rfl) ?_
        refine Gx.skipg rfl rfl rfl rfl rfl rfl ?_
        refine Gx.skipg rfl rfl rfl rfl rfl rfl ?_
        refine Gx.skipg rfl rfl rfl rfl rfl rfl ?_
        refine Gx.val rfl rfl rfl (val_pickT rfl rfl rfl) ?_
        refine Gx.val rfl rfl rfl (val_assign rfl rfl) ?_
        refine Gx.done ?_
        refine Gx.blkN ?_
        refine Gx.thenN ?_
        refine Gx.region ?_
        refine Gx.val rfl rfl rfl (val_add rfl rfl rfl (r := ((k3 + 1 : Nat) : Int)) (w64 (by omega) (by omega))) ?_
        refine Gx.val rfl rfl rfl (val_move rfl rfl) ?_
        refine Gx.done ?_
        refine Gx.thenN ?_
        refine Gx.drop 0 rfl ?_
        exact Gx.round (k3 + 1, true) ⟨by first | omega | (dsimp only; omega), by rw [take_snoc9 hx20, List.any_append, ← Bool.or_assoc, ← hb3, h22]; first | rfl | (simp only [List.any_cons, List.any_nil, Bool.or_false, Bool.false_or]; unfold badD; first | exact (decide_eq_true (by omega)).symm | exact decide_eq_decide.2 (by omega) | exact (decide_eq_false (by omega)).symm)⟩ (by first | omega | (dsimp only; omega)) ((.cons rfl (.cons rfl (.cons rfl (.cons rfl (.cons rfl (.cons rfl (.cons rfl (.cons rfl (.cons rfl .nil)))))))))) rfl
      refine Gx.valg rfl rfl rfl rfl rfl (Val.cast (val_fieldAddr rfl Try.underlying59 rfl Try.ty3 rfl rfl) (v' := ptr b21 0) rfl) ?_
      refine Gx.valg rfl rfl rfl rfl rfl (val_load rfl Try.ty3 rfl rfl (cell_rec (k := 0) rfl rfl)) ?_
      refine Gx.valg rfl rfl rfl rfl rfl (val_lss rfl rfl rfl) ?_
      refine Gx.val rfl rfl rfl (val_pickF rfl rfl rfl) ?_
      refine Gx.val rfl rfl rfl (val_move rfl rfl) ?_
      refine Gx.cases (t := 87) rfl (fun h23 => ?_) (fun h23 => ?_)
      · refine Gx.skipg rfl rfl rfl rfl rfl rfl ?_
        refine Gx.skipg rfl rfl rfl rfl rfl rfl ?_
        refine Gx.skipg rfl rfl rfl rfl rfl rfl ?_
        refine Gx.val rfl rfl rfl (val_pickT rfl rfl rfl) ?_
        refine Gx.val rfl rfl rfl (val_move rfl rfl) ?_
        refine Gx.skipg rfl rfl rfl rfl rfl rfl ?_
        refine Gx.skipg rfl rfl rfl rfl rfl rfl ?_
        refine Gx.skipg rfl rfl rfl rfl rfl rfl ?_
        refine Gx.skipg rfl rfl rfl rfl rfl rfl ?_
        refine Gx.skipg rfl rfl rfl rfl rfl rfl ?_
        refine Gx.val rfl rfl rfl (val_pickT rfl rfl rfl) ?_
        refine Gx.val rfl rfl rfl (val_move rfl rfl) ?_
        refine Gx.skipg rfl rfl rfl rfl rfl rfl ?_
        refine Gx.skipg rfl rfl rfl rfl rfl rfl ?_
        refine Gx.skipg rfl rfl rfl rfl rfl rfl ?_
        refine Gx.val rfl rfl rfl (val_pickT rfl rfl rfl) ?_
        refine Gx.val rfl rfl rfl (val_assign rfl rfl) ?_
        refine Gx.done ?_
        refine Gx.blkN ?_
        refine Gx.thenN ?_
        refine Gx.region ?_
        refine Gx.val rfl rfl rfl (val_add rfl rfl rfl (r := ((k3 + 1 : Nat) : Int)) (w64 (by omega) (by omega))) ?_
        refine Gx.val rfl rfl rfl (val_move rfl rfl) ?_
        refine Gx.done ?_
        refine Gx.thenN ?_
        refine Gx.drop 0 rfl ?_
        exact Gx.round (k3 + 1, true) ⟨by first | omega | (dsimp only; omega), by rw [take_snoc9 hx20, List.any_append, ← Bool.or_assoc, ← hb3, h22]; first | rfl | (simp only [List.any_cons, List.any_nil, Bool.or_false, Bool.false_or]; unfold badD; first | exact (decide_eq_true (by omega)).symm | exact decide_eq_decide.2 (by omega) | exact (decide_eq_false (by omega)).symm)⟩ (by first | omega | (dsimp only; omega)) ((.cons rfl (.cons rfl (.cons rfl (.cons rfl (.cons rfl (.cons rfl (.cons rfl (.cons rfl (.cons rfl .nil)))))))))) rfl
      refine Gx.valg rfl rfl rfl rfl rfl (Val.cast (val_fieldAddr rfl Try.underlying59 rfl Try.ty3 rfl rfl) (v' := ptr b21 0) rfl) ?_
      refine Gx.valg rfl rfl rfl rfl rfl (val_load rfl Try.ty3 rfl rfl (cell_rec (k := 0) rfl rfl)) ?_
      refine Gx.valg rfl rfl rfl rfl rfl (val_geq rfl rfl rfl) ?_
      refine Gx.val rfl rfl rfl (val_pickF rfl rfl rfl) ?_
      refine Gx.val rfl rfl rfl (val_move rfl rfl) ?_
      refine Gx.cases (t := 92) rfl (fun h24 => ?_) (fun h24 => ?_)
      · refine Gx.skipg rfl rfl rfl rfl rfl rfl ?_
        refine Gx.skipg rfl rfl rfl rfl rfl rfl ?_
        refine Gx.skipg rfl rfl rfl rfl rfl rfl ?_
        refine Gx.skipg rfl rfl rfl rfl rfl rfl ?_
        refine Gx.skipg rfl rfl rfl rfl rfl rfl ?_
        refine Gx.val rfl rfl rfl (val_pickT rfl rfl rfl) ?_
        refine Gx.val rfl rfl rfl (val_move rfl rfl) ?_
        refine Gx.skipg rfl rfl rfl rfl rfl rfl ?_
        refine Gx.skipg rfl rfl rfl rfl rfl rfl ?_
        refine Gx.skipg rfl rfl rfl rfl rfl rfl ?_
        refine Gx.val rfl rfl rfl (val_pickT rfl rfl rfl) ?_
        refine Gx.val rfl rfl rfl (val_assign rfl rfl) ?_
        refine Gx.done ?_
        refine Gx.blkN ?_
        refine Gx.thenN ?_
        refine Gx.region ?_
        refine Gx.val rfl rfl rfl (val_add rfl rfl rfl (r := ((k3 + 1 : Nat) : Int)) (w64 (by omega) (by omega))) ?_
        refine Gx.val rfl rfl rfl (val_move rfl rfl) ?_
        refine Gx.done ?_
        refine Gx.thenN ?_
        refine Gx.drop 0 rfl ?_
        exact Gx.round (k3 + 1, true) ⟨by first | omega | (dsimp only; omega), by rw [take_snoc9 hx20, List.any_append, ← Bool.or_assoc, ← hb3, h22]; first | rfl | (simp only [List.any_cons, List.any_nil, Bool.or_false, Bool.false_or]; unfold badD; first | exact (decide_eq_true (by omega)).symm | exact decide_eq_decide.2 (by omega) | exact (decide_eq_false (by omega)).symm)⟩ (by first | omega | (dsimp only; omega)) ((.cons rfl (.cons rfl (.cons rfl (.cons rfl (.cons rfl (.cons rfl (.cons rfl (.cons rfl (.cons rfl .nil)))))))))) rfl
      refine Gx.valg rfl rfl rfl rfl rfl (val_move rfl rfl) ?_
      refine Gx.valg rfl rfl rfl rfl rfl (Val.cast (val_fieldAddr rfl Try.underlying59 rfl Try.ty3 rfl rfl) (v' := ptr b21 1) rfl) ?_
      refine Gx.valg rfl rfl rfl rfl rfl (val_load rfl Try.ty3 rfl rfl (cell_rec (k := 0) rfl rfl)) ?_
      refine Gx.valg rfl rfl rfl rfl rfl (val_callV (vs := [.int .i64 x20.who]) (fs := []) (cs := [ptr b1 0]) rfl Try.fn29 rfl rfl (fun w H => check1_any (n := n) (H.at_ (k := 2) rfl).rec_.1 ((H.at_ (k := 2) rfl).cell 0 rfl))) ?_
      refine Gx.valg rfl rfl rfl rfl rfl (val_notD rfl rfl) ?_
      refine Gx.val rfl rfl rfl (val_pickF rfl rfl rfl) ?_
      refine Gx.val rfl rfl rfl (val_move rfl rfl) ?_
      refine Gx.cases (t := 99) rfl (fun h25 => ?_) (fun h25 => ?_)
      · refine Gx.skipg rfl rfl rfl rfl rfl rfl ?_
        refine Gx.skipg rfl rfl rfl rfl rfl rfl ?_
        refine Gx.skipg rfl rfl rfl rfl rfl rfl ?_
        refine Gx.val rfl rfl rfl (val_pickT rfl rfl rfl) ?_
        refine Gx.val rfl rfl rfl (val_assign rfl rfl) ?_
        refine Gx.done ?_
        refine Gx.blkN ?_
        refine Gx.thenN ?_
        refine Gx.region ?_
        refine Gx.val rfl rfl rfl (val_add rfl rfl rfl (r := ((k3 + 1 : Nat) : Int)) (w64 (by omega) (by omega))) ?_
        refine Gx.val rfl rfl rfl (val_move rfl rfl) ?_
        refine Gx.done ?_
        refine Gx.thenN ?_
        refine Gx.drop 0 rfl ?_
        exact Gx.round (k3 + 1, true) ⟨by first | omega | (dsimp only; omega), by rw [take_snoc9 hx20, List.any_append, ← Bool.or_assoc, ← hb3, h22]; first | rfl | (simp only [List.any_cons, List.any_nil, Bool.or_false, Bool.false_or]; unfold badD; first | exact (decide_eq_true (by omega)).symm | exact decide_eq_decide.2 (by omega) | exact (decide_eq_false (by omega)).symm)⟩ (by first | omega | (dsimp only; omega)) ((.cons rfl (.cons rfl (.cons rfl (.cons rfl (.cons rfl (.cons rfl (.cons rfl (.cons rfl (.cons rfl .nil)))))))))) rfl
      refine Gx.valg rfl rfl rfl rfl rfl (Val.cast (val_fieldAddr rfl Try.underlying59 rfl Try.ty3 rfl rfl) (v' := ptr b21 2) rfl) ?_
      refine Gx.valg rfl rfl rfl rfl rfl (val_load rfl Try.ty3 rfl rfl (cell_rec (k := 0) rfl rfl)) ?_
      refine Gx.valg rfl rfl rfl rfl rfl (val_lss rfl rfl rfl) ?_
      refine Gx.val rfl rfl rfl (val_pickF rfl rfl rfl) ?_
      refine Gx.val rfl rfl rfl (val_assign rfl rfl) ?_
      refine Gx.done ?_
      refine Gx.blkN ?_
      refine Gx.thenN ?_
      refine Gx.region ?_
      refine Gx.val rfl rfl rfl (val_add rfl rfl rfl (r := ((k3 + 1 : Nat) : Int)) (w64 (by omega) (by omega))) ?_
      refine Gx.val rfl rfl rfl (val_move rfl rfl) ?_
      refine Gx.done ?_
      refine Gx.thenN ?_
      refine Gx.drop 0 rfl ?_
      exact Gx.round (k3 + 1, decide (x20.n < 1)) ⟨by first | omega | (dsimp only; omega), by rw [take_snoc9 hx20, List.any_append, ← Bool.or_assoc, ← hb3, h22]; first | rfl | (simp only [List.any_cons, List.any_nil, Bool.or_false, Bool.false_or]; unfold badD; first | exact (decide_eq_true (by omega)).symm | exact decide_eq_decide.2 (by omega) | exact (decide_eq_false (by omega)).symm)⟩ (by first | omega | (dsimp only; omega)) ((.cons rfl (.cons rfl (.cons rfl (.cons rfl (.cons rfl (.cons rfl (.cons rfl (.cons rfl (.cons rfl .nil)))))))))) rfl
    refine Gx.exit ?_
    refine Gx.thenE ?_
    refine Gx.thenE ?_
    refine Gx.blkE ?_
    refine Gx.blkN ?_
    refine Gx.thenN ?_
    refine Gx.region ?_
    refine Gx.val rfl rfl rfl (val_add rfl rfl rfl (r := 2) (w64 (by omega) (by omega))) ?_
    refine Gx.val rfl rfl rfl (val_move rfl rfl) ?_
    refine Gx.done ?_
    refine Gx.thenN ?_
    exact Gx.round (2, bz3) ⟨by first | omega | (dsimp only; omega), by rw [hb3, List.take_of_length_le (by omega)]; rfl⟩ (by first | omega | (dsimp only; omega)) ((.cons rfl (.cons rfl (.cons rfl (.cons rfl (.cons rfl (.cons rfl .nil))))))) rfl
  · refine Gx.know (m' := [(2, ptr b1 0), (3, ptr b2 0), (5, .func (.func 29) #[] #[ptr b1 0]), (71, .agg #[av, gv]), (6, .bool bz2), (72, .int .i64 2)]) (.cons rfl (.cons rfl (.cons rfl (.cons rfl (.cons rfl (.cons rfl .nil)))))) (Gx.norm (l' := [Hp.rec_ b2 [cv, .int .i64 s.n, .int .i64 s.who, .int .i64 s.val, av, gv], Hp.rec_ b1 [.int .i64 n]]) rfl ?_)
    refine Gx.seq ?_
    refine Gx.region ?_
    refine Gx.val rfl rfl rfl (Val.cast (val_lss rfl rfl rfl) (v' := .bool false) rfl) ?_
    refine Gx.done ?_
    refine Gx.thenN ?_
    refine Gx.seq ?_
    refine Gx.f rfl ?_
    refine Gx.exit ?_
    refine Gx.thenE ?_
    refine Gx.thenE ?_
    refine Gx.blkE ?_
    refine Gx.thenN ?_
    refine Gx.seq ?_
    refine Gx.seq ?_
    refine Gx.region ?_
    refine Gx.val rfl rfl rfl (val_move rfl rfl) ?_
    refine Gx.done ?_
    refine Gx.thenN ?_
    refine Gx.bool rfl (fun h26 => ?_) (fun h26 => ?_)
    · refine Gx.seq ?_
      refine Gx.region ?_
      refine Gx.val rfl rfl rfl (val_assign rfl rfl) ?_
      refine Gx.done ?_
      refine Gx.thenN ?_
      refine Gx.ret ?_
      refine Gx.thenR ?_
      refine Gx.ret1 Try.results18 rfl ?_
      exact ⟨2, rfl, fun h => (by cases h), fun h => absurd (hb2.trans h.2.1) (by rw [h26]; decide)⟩
    refine Gx.skip ?_
    refine Gx.thenN ?_
    refine Gx.seq ?_
    refine Gx.seq ?_
    refine Gx.region ?_
    refine Gx.val rfl rfl rfl (Val.cast (val_fieldAddr rfl Try.underlying27 rfl Try.ty25 rfl rfl) (v' := ptr b2 4) rfl) ?_
    refine Gx.val rfl rfl rfl (val_load rfl Try.ty25 rfl rfl (cell_rec (k := 0) rfl rfl)) ?_
    refine Gx.eff rfl rfl rfl (eff_callE (vs := [av]) rfl Try.fn31 rfl (R := (fun v => ∃ b : Bool, v = .bool b ∧ (b = true ↔ Rises xa))) (fun w H => rises_any (ha.below H.below))) ?_
    rintro _ _ ⟨⟨rb27, rfl, hrb28⟩, rfl⟩
    refine Gx.val rfl rfl rfl (val_not rfl rfl) ?_
    refine Gx.val rfl rfl rfl (val_move rfl rfl) ?_
    refine Gx.casesB (t := 111) rfl (fun h29 => ?_) (fun h29 => ?_)
    · refine Gx.skipg rfl rfl rfl rfl rfl rfl ?_
      refine Gx.skipg rfl rfl rfl rfl rfl rfl ?_
      refine Gx.skipg rfl rfl rfl rfl rfl rfl ?_
      refine Gx.skipg rfl rfl rfl rfl rfl rfl ?_
      refine Gx.val rfl rfl rfl (val_pickT rfl rfl rfl) ?_
      refine Gx.done ?_
      refine Gx.thenN ?_
      refine Gx.t rfl ?_
      refine Gx.seq ?_
      refine Gx.region ?_
      refine Gx.val rfl rfl rfl (val_assign rfl rfl) ?_
      refine Gx.done ?_
      refine Gx.thenN ?_
      refine Gx.ret ?_
      refine Gx.thenR ?_
      refine Gx.ret1 Try.results18 rfl ?_
      exact ⟨3, rfl, fun h => (by cases h), fun h => by
        obtain ⟨_, _, q1, q2⟩ := h
        simp_all⟩
    refine Gx.valg rfl rfl rfl rfl rfl (Val.cast (val_fieldAddr rfl Try.underlying27 rfl Try.ty25 rfl rfl) (v' := ptr b2 5) rfl) ?_
    refine Gx.valg rfl rfl rfl rfl rfl (val_load rfl Try.ty25 rfl rfl (cell_rec (k := 0) rfl rfl)) ?_
    refine Gx.effg rfl rfl rfl rfl rfl (eff_callE (vs := [gv]) rfl Try.fn31 rfl (R := (fun v => ∃ b : Bool, v = .bool b ∧ (b = true ↔ Rises xg))) (fun w H => rises_any (hg.below H.below))) ?_
    rintro _ _ ⟨⟨rb30, rfl, hrb31⟩, rfl⟩
    refine Gx.valg rfl rfl rfl rfl rfl (val_not rfl rfl) ?_
    refine Gx.val rfl rfl rfl (val_pickF rfl rfl rfl) ?_
    refine Gx.done ?_
    refine Gx.thenN ?_
    refine Gx.bool rfl (fun h32 => ?_) (fun h32 => ?_)
    · refine Gx.seq ?_
      refine Gx.region ?_
      refine Gx.val rfl rfl rfl (val_assign rfl rfl) ?_
      refine Gx.done ?_
      refine Gx.thenN ?_
      refine Gx.ret ?_
      refine Gx.thenR ?_
      refine Gx.ret1 Try.results18 rfl ?_
      exact ⟨3, rfl, fun h => (by cases h), fun h => by
        obtain ⟨_, _, q1, q2⟩ := h
        simp_all⟩
    refine Gx.skip ?_
    refine Gx.thenN ?_
    refine Gx.seq ?_
    refine Gx.region ?_
    refine Gx.val rfl rfl rfl (val_assign rfl rfl) ?_
    refine Gx.done ?_
    refine Gx.thenN ?_
    refine Gx.ret ?_
    refine Gx.ret1 Try.results18 rfl ?_
    exact ⟨0, rfl, fun _ => ⟨h3, hb2.symm.trans h26, by simp_all, by simp_all⟩, fun _ => rfl⟩

end Go.Proofs.Ytfpkfbffpkjgbaa
