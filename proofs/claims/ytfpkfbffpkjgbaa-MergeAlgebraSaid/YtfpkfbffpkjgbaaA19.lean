/- May a copy be, by the document? The walk. No condition. -/
import Derived.Test.YtfpkfbffpkjgbaaA18
import Derived.Test.YtfpkfbffpkjgbaaW2
namespace Go.Proofs.Ytfpkfbffpkjgbaa
open Go.RowKit
set_option linter.unusedVariables false
set_option linter.unusedSimpArgs false
set_option maxRecDepth 100000

section
variable {n : Int} {s : Sp} {xc : List Int} {xa xg : List Dt}
theorem bad_big (h : big n xa.length xg.length = true) : ¬ GoodC n ⟨xc, s, xa, xg⟩ := fun g => by
  have := g.1; dsimp only at this; rw [h] at this; cases this
theorem bad_any (h : badC n ⟨xc, s, xa, xg⟩ = true) : ¬ GoodC n ⟨xc, s, xa, xg⟩ := fun g => by
  have := g.2.1; rw [h] at this; cases this
theorem bad_base (h : baseB n xc.length s = true) : ¬ GoodC n ⟨xc, s, xa, xg⟩ := bad_any (by unfold badC; dsimp only; rw [h]; rfl)
theorem bad_v {k : Nat} {x : Int} (hx : xc[k]? = some x) (h : badV x = true) : ¬ GoodC n ⟨xc, s, xa, xg⟩ := bad_any (by
  have : xc.any badV = true := List.any_eq_true.2 ⟨x, List.mem_of_getElem? hx, h⟩
  unfold badC; dsimp only; rw [this, Bool.or_true]; rfl)
theorem bad_a {k : Nat} {d : Dt} (hx : xa[k]? = some d) (h : badD n d = true) : ¬ GoodC n ⟨xc, s, xa, xg⟩ := bad_any (by
  have : xa.any (badD n) = true := List.any_eq_true.2 ⟨d, List.mem_of_getElem? hx, h⟩
  unfold badC; dsimp only; rw [this, Bool.or_true]; rfl)
theorem bad_g {k : Nat} {d : Dt} (hx : xg[k]? = some d) (h : badD n d = true) : ¬ GoodC n ⟨xc, s, xa, xg⟩ := bad_any (by
  have : xg.any (badD n) = true := List.any_eq_true.2 ⟨d, List.mem_of_getElem? hx, h⟩
  unfold badC; dsimp only; rw [this, Bool.or_true])
theorem good_mk (h1 : big n xa.length xg.length = false) (h2 : baseB n xc.length s = false) (h3 : xc.any badV = false) (h4 : xa.any (badD n) = false) (h5 : xg.any (badD n) = false) (h6 : Rises xa) (h7 : Rises xg) : GoodC n ⟨xc, s, xa, xg⟩ :=
  ⟨h1, by unfold badC; dsimp only; rw [h2, h3, h4, h5]; rfl, h6, h7⟩
def RO (xa xg : List Dt) : Nat → Prop
  | 0 => True
  | 1 => Rises xa
  | _ => Rises xa ∧ Rises xg
def BO (n : Int) (xa xg : List Dt) : Nat → Prop
  | 0 => True
  | 1 => xa.any (badD n) = false
  | _ => xa.any (badD n) = false ∧ xg.any (badD n) = false
end
theorem rises_nil {l : List Dt} : Rises (l.take 0) := fun i x y h => by simp at h
theorem rises_snoc {l : List Dt} {k : Nat} {y : Dt} (hy : l[k]? = some y) : Rises (l.take (k + 1)) ↔ Rises (l.take k) ∧ ∀ x, 0 < k → l[k - 1]? = some x → dotC x y < 0 := by
  have at_ : ∀ m i, (l.take m)[i]? = if i < m then l[i]? else none := fun m i => by rw [List.getElem?_take]
  constructor
  · intro h
    refine ⟨fun i a b ha hb => ?_, fun x hk hx => ?_⟩
    · rw [at_] at ha hb
      split at hb
      · rename_i q
        rw [if_pos (by omega)] at ha
        exact h i a b (by rw [at_, if_pos (by omega)]; exact ha) (by rw [at_, if_pos (by omega)]; exact hb)
      · cases hb
    · exact h (k - 1) x y (by rw [at_, if_pos (by omega)]; exact hx) (by rw [at_, if_pos (by omega), show k - 1 + 1 = k by omega]; exact hy)
  · rintro ⟨h1, h2⟩ i a b ha hb
    rw [at_] at ha hb
    split at hb
    · rename_i q
      rw [if_pos (by omega)] at ha
      by_cases e : i + 1 = k
      · subst e
        rw [hy] at hb; cases hb
        exact h2 a (by omega) ha
      · exact h1 i a b (by rw [at_, if_pos (by omega)]; exact ha) (by rw [at_, if_pos (by omega)]; exact hb)
    · cases hb
theorem any_snoc {α : Type} {f : α → Bool} {l : List α} {k : Nat} {x : α} (hx : l[k]? = some x) (h1 : (l.take k).any f = false) (h2 : f x = false) : (l.take (k + 1)).any f = false := by
  rw [take_snoc9 hx, List.any_append, h1]; simp [h2]
set_option maxHeartbeats 1000000 in
theorem ccheck_any {W : World} {n : Int} {ax1 ax2 ax3 : Option Addr} {nx1 nx2 nx3 cx1 cx2 cx3 : Nat} {s : Sp} {xc : List Int} {xa xg : List Dt} (hxc : SlS FI 1 W (.slice ax1 nx1 cx1) xc) (hxa : SlS FD 3 W (.slice ax2 nx2 cx2) xa) (hxg : SlS FD 3 W (.slice ax3 nx3 cx3) xg) :
    Calls Try.prog 20 #[.int .i64 n, .agg #[.slice ax1 nx1 cx1, .int .i64 s.n, .int .i64 s.who, .int .i64 s.val, .slice ax2 nx2 cx2, .slice ax3 nx3 cx3]] W fun e w' => ∃ u, e = .returned u ∧ (∃ code : Int, u = .int .i64 code ∧ (code = 0 ↔ GoodC n ⟨xc, s, xa, xg⟩)) ∧ Below W.heap.size W w' := by
  have hm1 := sls_bd hxc
  have hm2 := sls_bd hxa
  have hm3 := sls_bd hxg
  refine calls_rel (R := fun v => ∃ code : Int, v = .int .i64 code ∧ (code = 0 ↔ GoodC n ⟨xc, s, xa, xg⟩)) (Gx.enter (l := []) Try.func20 rfl Try.ntmps20 rfl (Sat.start W) ?_)
  refine Gx.know (m' := [(0, .int .i64 n), (1, .agg #[.slice ax1 nx1 cx1, .int .i64 s.n, .int .i64 s.who, .int .i64 s.val, .slice ax2 nx2 cx2, .slice ax3 nx3 cx3])]) (.cons rfl (.cons rfl .nil)) ?_
  refine Gx.seq ?_
  refine Gx.region ?_
  refine Gx.eff rfl rfl rfl (eff_box rfl rfl (vs := [.slice ax1 nx1 cx1, .int .i64 s.n, .int .i64 s.who, .int .i64 s.val, .slice ax2 nx2 cx2, .slice ax3 nx3 cx3]) rfl) ?_
  rintro _ _ ⟨b1, rfl, rfl⟩
  refine Gx.val rfl rfl rfl (val_assign rfl rfl) ?_
  refine Gx.done ?_
  refine Gx.thenN ?_
  refine Gx.meet (ι := Unit) (fun ξ => (big n xa.length xg.length = false)) (fun ξ => [(0, .int .i64 n), (3, ptr b1 0)]) (fun ξ => [Hp.rec_ b1 [.slice ax1 nx1 cx1, .int .i64 s.n, .int .i64 s.who, .int .i64 s.val, .slice ax2 nx2 cx2, .slice ax3 nx3 cx3]]) ?_ ?_
  · refine Gx.seq ?_
    refine Gx.region ?_
    refine Gx.val rfl rfl rfl (val_move rfl rfl) ?_
    refine Gx.val rfl rfl rfl (val_lss rfl rfl rfl) ?_
    refine Gx.val rfl rfl rfl (val_move rfl rfl) ?_
    refine Gx.cases (t := 14) rfl (fun h2 => ?_) (fun h2 => ?_)
    · refine Gx.skipg rfl rfl rfl rfl rfl rfl ?_
      refine Gx.skipg rfl rfl rfl rfl rfl rfl ?_
      refine Gx.val rfl rfl rfl (val_pickT rfl rfl rfl) ?_
      refine Gx.val rfl rfl rfl (val_move rfl rfl) ?_
      refine Gx.skipg rfl rfl rfl rfl rfl rfl ?_
      refine Gx.skipg rfl rfl rfl rfl rfl rfl ?_
      refine Gx.skipg rfl rfl rfl rfl rfl rfl ?_
      refine Gx.skipg rfl rfl rfl rfl rfl rfl ?_
      refine Gx.val rfl rfl rfl (val_pickT rfl rfl rfl) ?_
      refine Gx.val rfl rfl rfl (val_move rfl rfl) ?_
      refine Gx.skipg rfl rfl rfl rfl rfl rfl ?_
      refine Gx.skipg rfl rfl rfl rfl rfl rfl ?_
      refine Gx.skipg rfl rfl rfl rfl rfl rfl ?_
      refine Gx.skipg rfl rfl rfl rfl rfl rfl ?_
      refine Gx.val rfl rfl rfl (val_pickT rfl rfl rfl) ?_
      refine Gx.done ?_
      refine Gx.thenN ?_
      refine Gx.t rfl ?_
      refine Gx.seq ?_
      refine Gx.region ?_
      refine Gx.val rfl rfl rfl (val_assign rfl rfl) ?_
      refine Gx.done ?_
      refine Gx.thenN ?_
      refine Gx.ret ?_
      refine Gx.thenR ?_
      refine Gx.ret1 Try.results20 rfl ?_
      exact ⟨1, rfl, fun h => (by cases h), fun h => absurd h (bad_big (by unfold big; exact decide_eq_true (by omega)))⟩
    refine Gx.valg rfl rfl rfl rfl rfl (val_move rfl rfl) ?_
    refine Gx.valg rfl rfl rfl rfl rfl (val_gtr rfl rfl rfl) ?_
    refine Gx.val rfl rfl rfl (val_pickF rfl rfl rfl) ?_
    refine Gx.val rfl rfl rfl (val_move rfl rfl) ?_
    refine Gx.cases (t := 18) rfl (fun h3 => ?_) (fun h3 => ?_)
    · refine Gx.skipg rfl rfl rfl rfl rfl rfl ?_
      refine Gx.skipg rfl rfl rfl rfl rfl rfl ?_
      refine Gx.skipg rfl rfl rfl rfl rfl rfl ?_
      refine Gx.skipg rfl rfl rfl rfl rfl rfl ?_
      refine Gx.val rfl rfl rfl (val_pickT rfl rfl rfl) ?_
      refine Gx.val rfl rfl rfl (val_move rfl rfl) ?_
      refine Gx.skipg rfl rfl rfl rfl rfl rfl ?_
      refine Gx.skipg rfl rfl rfl rfl rfl rfl ?_
      refine Gx.skipg rfl rfl rfl rfl rfl rfl ?_
      refine Gx.skipg rfl rfl rfl rfl rfl rfl ?_
      refine Gx.val rfl rfl rfl (val_pickT rfl rfl rfl) ?_
      refine Gx.done ?_
      refine Gx.thenN ?_
      refine Gx.t rfl ?_
      refine Gx.seq ?_
      refine Gx.region ?_
      refine Gx.val rfl rfl rfl (val_assign rfl rfl) ?_
      refine Gx.done ?_
      refine Gx.thenN ?_
      refine Gx.ret ?_
      refine Gx.thenR ?_
      refine Gx.ret1 Try.results20 rfl ?_
      exact ⟨1, rfl, fun h => (by cases h), fun h => absurd h (bad_big (by unfold big; exact decide_eq_true (by omega)))⟩
    refine Gx.valg rfl rfl rfl rfl rfl (Val.cast (val_fieldAddr rfl Try.underlying27 rfl Try.ty25 rfl rfl) (v' := ptr b1 4) rfl) ?_
    refine Gx.valg rfl rfl rfl rfl rfl (val_load rfl Try.ty25 rfl rfl (cell_rec (k := 0) rfl rfl)) ?_
    refine Gx.valg rfl rfl rfl rfl rfl (val_len rfl Try.underlying25 rfl (len_base hxa)) ?_
    refine Gx.valg rfl rfl rfl rfl rfl (val_gtr rfl rfl rfl) ?_
    refine Gx.val rfl rfl rfl (val_pickF rfl rfl rfl) ?_
    refine Gx.val rfl rfl rfl (val_move rfl rfl) ?_
    refine Gx.cases (t := 24) rfl (fun h4 => ?_) (fun h4 => ?_)
    · refine Gx.skipg rfl rfl rfl rfl rfl rfl ?_
      refine Gx.skipg rfl rfl rfl rfl rfl rfl ?_
      refine Gx.skipg rfl rfl rfl rfl rfl rfl ?_
      refine Gx.skipg rfl rfl rfl rfl rfl rfl ?_
      refine Gx.val rfl rfl rfl (val_pickT rfl rfl rfl) ?_
      refine Gx.done ?_
      refine Gx.thenN ?_
      refine Gx.t rfl ?_
      refine Gx.seq ?_
      refine Gx.region ?_
      refine Gx.val rfl rfl rfl (val_assign rfl rfl) ?_
      refine Gx.done ?_
      refine Gx.thenN ?_
      refine Gx.ret ?_
      refine Gx.thenR ?_
      refine Gx.ret1 Try.results20 rfl ?_
      exact ⟨1, rfl, fun h => (by cases h), fun h => absurd h (bad_big (by unfold big; exact decide_eq_true (by omega)))⟩
    refine Gx.valg rfl rfl rfl rfl rfl (Val.cast (val_fieldAddr rfl Try.underlying27 rfl Try.ty25 rfl rfl) (v' := ptr b1 5) rfl) ?_
    refine Gx.valg rfl rfl rfl rfl rfl (val_load rfl Try.ty25 rfl rfl (cell_rec (k := 0) rfl rfl)) ?_
    refine Gx.valg rfl rfl rfl rfl rfl (val_len rfl Try.underlying25 rfl (len_base hxg)) ?_
    refine Gx.valg rfl rfl rfl rfl rfl (val_gtr rfl rfl rfl) ?_
    refine Gx.val rfl rfl rfl (val_pickF rfl rfl rfl) ?_
    refine Gx.done ?_
    refine Gx.thenN ?_
    refine Gx.dec rfl (fun h5 => ?_) (fun h5 => ?_)
    · refine Gx.seq ?_
      refine Gx.region ?_
      refine Gx.val rfl rfl rfl (val_assign rfl rfl) ?_
      refine Gx.done ?_
      refine Gx.thenN ?_
      refine Gx.ret ?_
      refine Gx.thenR ?_
      refine Gx.ret1 Try.results20 rfl ?_
      exact ⟨1, rfl, fun h => (by cases h), fun h => absurd h (bad_big (by unfold big; exact decide_eq_true (by omega)))⟩
    refine Gx.skip ?_
    refine Gx.thenN ?_
    exact Gx.fam () (by unfold big; exact decide_eq_false (by omega)) ((.cons rfl (.cons rfl .nil))) rfl
  rintro _ hbig
  refine Gx.know (m' := [(0, .int .i64 n), (3, ptr b1 0)]) (.cons rfl (.cons rfl .nil)) (Gx.norm (l' := [Hp.rec_ b1 [.slice ax1 nx1 cx1, .int .i64 s.n, .int .i64 s.who, .int .i64 s.val, .slice ax2 nx2 cx2, .slice ax3 nx3 cx3]]) rfl ?_)
  refine Gx.meet (ι := Unit) (fun ξ => (baseB n xc.length s = false)) (fun ξ => [(0, .int .i64 n), (3, ptr b1 0)]) (fun ξ => [Hp.rec_ b1 [.slice ax1 nx1 cx1, .int .i64 s.n, .int .i64 s.who, .int .i64 s.val, .slice ax2 nx2 cx2, .slice ax3 nx3 cx3]]) ?_ ?_
  · refine Gx.seq ?_
    refine Gx.region ?_
    refine Gx.val rfl rfl rfl (Val.cast (val_fieldAddr rfl Try.underlying27 rfl Try.ty22 rfl rfl) (v' := ptr b1 0) rfl) ?_
    refine Gx.val rfl rfl rfl (val_load rfl Try.ty22 rfl rfl (cell_rec (k := 0) rfl rfl)) ?_
    refine Gx.val rfl rfl rfl (val_len rfl Try.underlying22 rfl (len_base hxc)) ?_
    refine Gx.val rfl rfl rfl (val_move rfl rfl) ?_
    refine Gx.val rfl rfl rfl (val_neq rfl rfl rfl) ?_
    refine Gx.val rfl rfl rfl (val_move rfl rfl) ?_
    refine Gx.cases (t := 35) rfl (fun h6 => ?_) (fun h6 => ?_)
    · refine Gx.skipg rfl rfl rfl rfl rfl rfl ?_
      refine Gx.skipg rfl rfl rfl rfl rfl rfl ?_
      refine Gx.skipg rfl rfl rfl rfl rfl rfl ?_
      refine Gx.skipg rfl rfl rfl rfl rfl rfl ?_
      refine Gx.val rfl rfl rfl (val_pickT rfl rfl rfl) ?_
      refine Gx.val rfl rfl rfl (val_move rfl rfl) ?_
      refine Gx.skipg rfl rfl rfl rfl rfl rfl ?_
      refine Gx.skipg rfl rfl rfl rfl rfl rfl ?_
      refine Gx.skipg rfl rfl rfl rfl rfl rfl ?_
      refine Gx.skipg rfl rfl rfl rfl rfl rfl ?_
      refine Gx.val rfl rfl rfl (val_pickT rfl rfl rfl) ?_
      refine Gx.val rfl rfl rfl (val_move rfl rfl) ?_
      refine Gx.skipg rfl rfl rfl rfl rfl rfl ?_
      refine Gx.skipg rfl rfl rfl rfl rfl rfl ?_
      refine Gx.skipg rfl rfl rfl rfl rfl rfl ?_
      refine Gx.skipg rfl rfl rfl rfl rfl rfl ?_
      refine Gx.val rfl rfl rfl (val_pickT rfl rfl rfl) ?_
      refine Gx.val rfl rfl rfl (val_move rfl rfl) ?_
      refine Gx.skipg rfl rfl rfl rfl rfl rfl ?_
      refine Gx.skipg rfl rfl rfl rfl rfl rfl ?_
      refine Gx.skipg rfl rfl rfl rfl rfl rfl ?_
      refine Gx.skipg rfl rfl rfl rfl rfl rfl ?_
      refine Gx.skipg rfl rfl rfl rfl rfl rfl ?_
      refine Gx.val rfl rfl rfl (val_pickT rfl rfl rfl) ?_
      refine Gx.val rfl rfl rfl (val_move rfl rfl) ?_
      refine Gx.skipg rfl rfl rfl rfl rfl rfl ?_
      refine Gx.skipg rfl rfl rfl rfl rfl rfl ?_
      refine Gx.skipg rfl rfl rfl rfl rfl rfl ?_
      refine Gx.skipg rfl rfl rfl rfl rfl rfl ?_
      refine Gx.val rfl rfl rfl (val_pickT rfl rfl rfl) ?_
      refine Gx.val rfl rfl rfl (val_move rfl rfl) ?_
      refine Gx.skipg rfl rfl rfl rfl rfl rfl ?_
      refine Gx.skipg rfl rfl rfl rfl rfl rfl ?_
      refine Gx.skipg rfl rfl rfl rfl rfl rfl ?_
      refine Gx.skipg rfl rfl rfl rfl rfl rfl ?_
      refine Gx.val rfl rfl rfl (val_pickT rfl rfl rfl) ?_
      refine Gx.done ?_
      refine Gx.thenN ?_
      refine Gx.t rfl ?_
      refine Gx.seq ?_
      refine Gx.region ?_
      refine Gx.val rfl rfl rfl (val_assign rfl rfl) ?_
      refine Gx.done ?_
      refine Gx.thenN ?_
      refine Gx.ret ?_
      refine Gx.thenR ?_
      refine Gx.ret1 Try.results20 rfl ?_
      exact ⟨2, rfl, fun h => (by cases h), fun h => absurd h (bad_base (by unfold baseB; exact decide_eq_true (by omega)))⟩
    refine Gx.valg rfl rfl rfl rfl rfl (Val.cast (val_fieldAddr rfl Try.underlying27 rfl Try.ty24 rfl rfl) (v' := ptr b1 1) rfl) ?_
    refine Gx.valg rfl rfl rfl rfl rfl (Val.cast (val_fieldAddr rfl Try.underlying24 rfl Try.ty3 rfl rfl) (v' := ptr b1 1) rfl) ?_
    refine Gx.valg rfl rfl rfl rfl rfl (val_load rfl Try.ty3 rfl rfl (cell_rec (k := 0) rfl rfl)) ?_
    refine Gx.valg rfl rfl rfl rfl rfl (val_lss rfl rfl rfl) ?_
    refine Gx.val rfl rfl rfl (val_pickF rfl rfl rfl) ?_
    refine Gx.val rfl rfl rfl (val_move rfl rfl) ?_
    refine Gx.cases (t := 41) rfl (fun h7 => ?_) (fun h7 => ?_)
    · refine Gx.skipg rfl rfl rfl rfl rfl rfl ?_
      refine Gx.skipg rfl rfl rfl rfl rfl rfl ?_
      refine Gx.skipg rfl rfl rfl rfl rfl rfl ?_
      refine Gx.skipg rfl rfl rfl rfl rfl rfl ?_
      refine Gx.val rfl rfl rfl (val_pickT rfl rfl rfl) ?_
      refine Gx.val rfl rfl rfl (val_move rfl rfl) ?_
      refine Gx.skipg rfl rfl rfl rfl rfl rfl ?_
      refine Gx.skipg rfl rfl rfl rfl rfl rfl ?_
      refine Gx.skipg rfl rfl rfl rfl rfl rfl ?_
      refine Gx.skipg rfl rfl rfl rfl rfl rfl ?_
      refine Gx.val rfl rfl rfl (val_pickT rfl rfl rfl) ?_
      refine Gx.val rfl rfl rfl (val_move rfl rfl) ?_
      refine Gx.skipg rfl rfl rfl rfl rfl rfl ?_
      refine Gx.skipg rfl rfl rfl rfl rfl rfl ?_
      refine Gx.skipg rfl rfl rfl rfl rfl rfl ?_
      refine Gx.skipg rfl rfl rfl rfl rfl rfl ?_
      refine Gx.skipg rfl rfl rfl rfl rfl rfl ?_
      refine Gx.val rfl rfl rfl (val_pickT rfl rfl rfl) ?_
      refine Gx.val rfl rfl rfl (val_move rfl rfl) ?_
      refine Gx.skipg rfl rfl rfl rfl rfl rfl ?_
      refine Gx.skipg rfl rfl rfl rfl rfl rfl ?_
      refine Gx.skipg rfl rfl rfl rfl rfl rfl ?_
      refine Gx.skipg rfl rfl rfl rfl rfl rfl ?_
      refine Gx.val rfl rfl rfl (val_pickT rfl rfl rfl) ?_
      refine Gx.val rfl rfl rfl (val_move rfl rfl) ?_
      refine Gx.skipg rfl rfl rfl rfl rfl rfl ?_
      refine Gx.skipg rfl rfl rfl rfl rfl rfl ?_
      refine Gx.skipg rfl rfl rfl rfl rfl rfl ?_
      refine Gx.skipg rfl rfl rfl rfl rfl rfl ?_
      refine Gx.val rfl rfl rfl (val_pickT rfl rfl rfl) ?_
      refine Gx.done ?_
      refine Gx.thenN ?_
      refine Gx.t rfl ?_
      refine Gx.seq ?_
      refine Gx.region ?_
      refine Gx.val rfl rfl rfl (val_assign rfl rfl) ?_
      refine Gx.done ?_
      refine Gx.thenN ?_
      refine Gx.ret ?_
      refine Gx.thenR ?_
      refine Gx.ret1 Try.results20 rfl ?_
      exact ⟨2, rfl, fun h => (by cases h), fun h => absurd h (bad_base (by unfold baseB; exact decide_eq_true (by omega)))⟩
    refine Gx.valg rfl rfl rfl rfl rfl (Val.cast (val_fieldAddr rfl Try.underlying27 rfl Try.ty24 rfl rfl) (v' := ptr b1 1) rfl) ?_
    refine Gx.valg rfl rfl rfl rfl rfl (Val.cast (val_fieldAddr rfl Try.underlying24 rfl Try.ty3 rfl rfl) (v' := ptr b1 1) rfl) ?_
    refine Gx.valg rfl rfl rfl rfl rfl (val_load rfl Try.ty3 rfl rfl (cell_rec (k := 0) rfl rfl)) ?_
    refine Gx.valg rfl rfl rfl rfl rfl (val_gtr rfl rfl rfl) ?_
    refine Gx.val rfl rfl rfl (val_pickF rfl rfl rfl) ?_
    refine Gx.val rfl rfl rfl (val_move rfl rfl) ?_
    refine Gx.cases (t := 47) rfl (fun h8 => ?_) (fun h8 => ?_)
    · refine Gx.skipg rfl rfl rfl rfl rfl rfl ?_
      refine Gx.skipg rfl rfl rfl rfl rfl rfl ?_
      refine Gx.skipg rfl rfl rfl rfl rfl rfl ?_
      refine Gx.skipg rfl rfl rfl rfl rfl rfl ?_
      refine Gx.val rfl rfl rfl (val_pickT rfl rfl rfl) ?_
      refine Gx.val rfl rfl rfl (val_move rfl rfl) ?_
      refine Gx.skipg rfl rfl rfl rfl rfl rfl ?_
      refine Gx.skipg rfl rfl rfl rfl rfl rfl ?_
      refine Gx.skipg rfl rfl rfl rfl rfl rfl ?_
      refine Gx.skipg rfl rfl rfl rfl rfl rfl ?_
      refine Gx.skipg rfl rfl rfl rfl rfl rfl ?_
      refine Gx.val rfl rfl rfl (val_pickT rfl rfl rfl) ?_
      refine Gx.val rfl rfl rfl (val_move rfl rfl) ?_
      refine Gx.skipg rfl rfl rfl rfl rfl rfl ?_
      refine Gx.skipg rfl rfl rfl rfl rfl rfl ?_
      refine Gx.skipg rfl rfl rfl rfl rfl rfl ?_
      refine Gx.skipg rfl rfl rfl rfl rfl rfl ?_
      refine Gx.val rfl rfl rfl (val_pickT rfl rfl rfl) ?_
      refine Gx.val rfl rfl rfl (val_move rfl rfl) ?_
      refine Gx.skipg rfl rfl rfl rfl rfl rfl ?_
      refine Gx.skipg rfl rfl rfl rfl rfl rfl ?_
      refine Gx.skipg rfl rfl rfl rfl rfl rfl ?_
      refine Gx.skipg rfl rfl rfl rfl rfl rfl ?_
      refine Gx.val rfl rfl rfl (val_pickT rfl rfl rfl) ?_
      refine Gx.done ?_
      refine Gx.thenN ?_
      refine Gx.t rfl ?_
      refine Gx.seq ?_
      refine Gx.region ?_
      refine Gx.val rfl rfl rfl (val_assign rfl rfl) ?_
      refine Gx.done ?_
      refine Gx.thenN ?_
      refine Gx.ret ?_
      refine Gx.thenR ?_
      refine Gx.ret1 Try.results20 rfl ?_
      exact ⟨2, rfl, fun h => (by cases h), fun h => absurd h (bad_base (by unfold baseB; exact decide_eq_true (by omega)))⟩
    refine Gx.valg rfl rfl rfl rfl rfl (Val.cast (val_fieldAddr rfl Try.underlying27 rfl Try.ty24 rfl rfl) (v' := ptr b1 1) rfl) ?_
    refine Gx.valg rfl rfl rfl rfl rfl (Val.cast (val_fieldAddr rfl Try.underlying24 rfl Try.ty3 rfl rfl) (v' := ptr b1 2) rfl) ?_
    refine Gx.valg rfl rfl rfl rfl rfl (val_load rfl Try.ty3 rfl rfl (cell_rec (k := 0) rfl rfl)) ?_
    refine Gx.valg rfl rfl rfl rfl rfl (val_lss rfl rfl rfl) ?_
    refine Gx.val rfl rfl rfl (val_pickF rfl rfl rfl) ?_
    refine Gx.val rfl rfl rfl (val_move rfl rfl) ?_
    refine Gx.cases (t := 53) rfl (fun h9 => ?_) (fun h9 => ?_)
    · refine Gx.skipg rfl rfl rfl rfl rfl rfl ?_
      refine Gx.skipg rfl rfl rfl rfl rfl rfl ?_
      refine Gx.skipg rfl rfl rfl rfl rfl rfl ?_
      refine Gx.skipg rfl rfl rfl rfl rfl rfl ?_
      refine Gx.skipg rfl rfl rfl rfl rfl rfl ?_
      refine Gx.val rfl rfl rfl (val_pickT rfl rfl rfl) ?_
      refine Gx.val rfl rfl rfl (val_move rfl rfl) ?_
      refine Gx.skipg rfl rfl rfl rfl rfl rfl ?_
      refine Gx.skipg rfl rfl rfl rfl rfl rfl ?_
      refine Gx.skipg rfl rfl rfl rfl rfl rfl ?_
      refine Gx.skipg rfl rfl rfl rfl rfl rfl ?_
      refine Gx.val rfl rfl rfl (val_pickT rfl rfl rfl) ?_
      refine Gx.val rfl rfl rfl (val_move rfl rfl) ?_
      refine Gx.skipg rfl rfl rfl rfl rfl rfl ?_
      refine Gx.skipg rfl rfl rfl rfl rfl rfl ?_
      refine Gx.skipg rfl rfl rfl rfl rfl rfl ?_
      refine Gx.skipg rfl rfl rfl rfl rfl rfl ?_
      refine Gx.val rfl rfl rfl (val_pickT rfl rfl rfl) ?_
      refine Gx.done ?_
      refine Gx.thenN ?_
      refine Gx.t rfl ?_
      refine Gx.seq ?_
      refine Gx.region ?_
      refine Gx.val rfl rfl rfl (val_assign rfl rfl) ?_
      refine Gx.done ?_
      refine Gx.thenN ?_
      refine Gx.ret ?_
      refine Gx.thenR ?_
      refine Gx.ret1 Try.results20 rfl ?_
      exact ⟨2, rfl, fun h => (by cases h), fun h => absurd h (bad_base (by unfold baseB; exact decide_eq_true (by omega)))⟩
    refine Gx.valg rfl rfl rfl rfl rfl (Val.cast (val_fieldAddr rfl Try.underlying27 rfl Try.ty24 rfl rfl) (v' := ptr b1 1) rfl) ?_
    refine Gx.valg rfl rfl rfl rfl rfl (Val.cast (val_fieldAddr rfl Try.underlying24 rfl Try.ty3 rfl rfl) (v' := ptr b1 2) rfl) ?_
    refine Gx.valg rfl rfl rfl rfl rfl (val_load rfl Try.ty3 rfl rfl (cell_rec (k := 0) rfl rfl)) ?_
    refine Gx.valg rfl rfl rfl rfl rfl (val_move rfl rfl) ?_
    refine Gx.valg rfl rfl rfl rfl rfl (val_geq rfl rfl rfl) ?_
    refine Gx.val rfl rfl rfl (val_pickF rfl rfl rfl) ?_
    refine Gx.val rfl rfl rfl (val_move rfl rfl) ?_
    refine Gx.cases (t := 60) rfl (fun h10 => ?_) (fun h10 => ?_)
    · refine Gx.skipg rfl rfl rfl rfl rfl rfl ?_
      refine Gx.skipg rfl rfl rfl rfl rfl rfl ?_
      refine Gx.skipg rfl rfl rfl rfl rfl rfl ?_
      refine Gx.skipg rfl rfl rfl rfl rfl rfl ?_
      refine Gx.val rfl rfl rfl (val_pickT rfl rfl rfl) ?_
      refine Gx.val rfl rfl rfl (val_move rfl rfl) ?_
      refine Gx.skipg rfl rfl rfl rfl rfl rfl ?_
      refine Gx.skipg rfl rfl rfl rfl rfl rfl ?_
      refine Gx.skipg rfl rfl rfl rfl rfl rfl ?_
      refine Gx.skipg rfl rfl rfl rfl rfl rfl ?_
      refine Gx.val rfl rfl rfl (val_pickT rfl rfl rfl) ?_
      refine Gx.done ?_
      refine Gx.thenN ?_
      refine Gx.t rfl ?_
      refine Gx.seq ?_
      refine Gx.region ?_
      refine Gx.val rfl rfl rfl (val_assign rfl rfl) ?_
      refine Gx.done ?_
      refine Gx.thenN ?_
      refine Gx.ret ?_
      refine Gx.thenR ?_
      refine Gx.ret1 Try.results20 rfl ?_
      exact ⟨2, rfl, fun h => (by cases h), fun h => absurd h (bad_base (by unfold baseB; exact decide_eq_true (by omega)))⟩
    refine Gx.valg rfl rfl rfl rfl rfl (Val.cast (val_fieldAddr rfl Try.underlying27 rfl Try.ty24 rfl rfl) (v' := ptr b1 1) rfl) ?_
    refine Gx.valg rfl rfl rfl rfl rfl (Val.cast (val_fieldAddr rfl Try.underlying24 rfl Try.ty2 rfl rfl) (v' := ptr b1 3) rfl) ?_
    refine Gx.valg rfl rfl rfl rfl rfl (val_load rfl Try.ty2 rfl rfl (cell_rec (k := 0) rfl rfl)) ?_
    refine Gx.valg rfl rfl rfl rfl rfl (val_lss rfl rfl rfl) ?_
    refine Gx.val rfl rfl rfl (val_pickF rfl rfl rfl) ?_
    refine Gx.val rfl rfl rfl (val_move rfl rfl) ?_
    refine Gx.cases (t := 66) rfl (fun h11 => ?_) (fun h11 => ?_)
    · refine Gx.skipg rfl rfl rfl rfl rfl rfl ?_
      refine Gx.skipg rfl rfl rfl rfl rfl rfl ?_
      refine Gx.skipg rfl rfl rfl rfl rfl rfl ?_
      refine Gx.skipg rfl rfl rfl rfl rfl rfl ?_
      refine Gx.val rfl rfl rfl (val_pickT rfl rfl rfl) ?_
      refine Gx.done ?_
      refine Gx.thenN ?_
      refine Gx.t rfl ?_
      refine Gx.seq ?_
      refine Gx.region ?_
      refine Gx.val rfl rfl rfl (val_assign rfl rfl) ?_
      refine Gx.done ?_
      refine Gx.thenN ?_
      refine Gx.ret ?_
      refine Gx.thenR ?_
      refine Gx.ret1 Try.results20 rfl ?_
      exact ⟨2, rfl, fun h => (by cases h), fun h => absurd h (bad_base (by unfold baseB; exact decide_eq_true (by omega)))⟩
    refine Gx.valg rfl rfl rfl rfl rfl (Val.cast (val_fieldAddr rfl Try.underlying27 rfl Try.ty24 rfl rfl) (v' := ptr b1 1) rfl) ?_
    refine Gx.valg rfl rfl rfl rfl rfl (Val.cast (val_fieldAddr rfl Try.underlying24 rfl Try.ty2 rfl rfl) (v' := ptr b1 3) rfl) ?_
    refine Gx.valg rfl rfl rfl rfl rfl (val_load rfl Try.ty2 rfl rfl (cell_rec (k := 0) rfl rfl)) ?_
    refine Gx.valg rfl rfl rfl rfl rfl (val_gtr rfl rfl rfl) ?_
    refine Gx.val rfl rfl rfl (val_pickF rfl rfl rfl) ?_
    refine Gx.done ?_
    refine Gx.thenN ?_
    refine Gx.dec rfl (fun h12 => ?_) (fun h12 => ?_)
    · refine Gx.seq ?_
      refine Gx.region ?_
      refine Gx.val rfl rfl rfl (val_assign rfl rfl) ?_
      refine Gx.done ?_
      refine Gx.thenN ?_
      refine Gx.ret ?_
      refine Gx.thenR ?_
      refine Gx.ret1 Try.results20 rfl ?_
      exact ⟨2, rfl, fun h => (by cases h), fun h => absurd h (bad_base (by unfold baseB; exact decide_eq_true (by omega)))⟩
    refine Gx.skip ?_
    refine Gx.thenN ?_
    exact Gx.fam () (by unfold baseB; exact decide_eq_false (by omega)) ((.cons rfl (.cons rfl .nil))) rfl
  rintro _ hbase
  refine Gx.know (m' := [(0, .int .i64 n), (3, ptr b1 0)]) (.cons rfl (.cons rfl .nil)) (Gx.norm (l' := [Hp.rec_ b1 [.slice ax1 nx1 cx1, .int .i64 s.n, .int .i64 s.who, .int .i64 s.val, .slice ax2 nx2 cx2, .slice ax3 nx3 cx3]]) rfl ?_)
  refine Gx.seq ?_
  refine Gx.seq ?_
  refine Gx.region ?_
  refine Gx.val rfl rfl rfl (Val.cast (val_fieldAddr rfl Try.underlying27 rfl Try.ty22 rfl rfl) (v' := ptr b1 0) rfl) ?_
  refine Gx.val rfl rfl rfl (val_load rfl Try.ty22 rfl rfl (cell_rec (k := 0) rfl rfl)) ?_
  refine Gx.val rfl rfl rfl (val_len rfl Try.underlying22 rfl (len_base hxc)) ?_
  refine Gx.val rfl rfl rfl (val_move rfl rfl) ?_
  refine Gx.done ?_
  refine Gx.thenN ?_
  refine Gx.block ?_
  refine Gx.loop (ι := Nat) (fun ξ => (ξ ≤ xc.length) ∧ ((xc.take ξ).any badV = false)) (fun ξ => [(0, .int .i64 n), (3, ptr b1 0), (73, .slice ax1 nx1 cx1), (74, .int .i64 ((xc.length : Nat) : Int)), (75, .int .i64 ((ξ : Nat) : Int))]) (fun ξ => [Hp.rec_ b1 [.slice ax1 nx1 cx1, .int .i64 s.n, .int .i64 s.who, .int .i64 s.val, .slice ax2 nx2 cx2, .slice ax3 nx3 cx3]]) (fun ξ => xc.length - ξ) 0 ⟨by first | omega | (dsimp only; omega), rfl⟩ ((.cons rfl (.cons rfl (.cons rfl (.cons rfl (.cons rfl .nil)))))) rfl ?_
  rintro k ⟨hk, hv⟩
  refine Gx.know (m' := [(0, .int .i64 n), (3, ptr b1 0), (73, .slice ax1 nx1 cx1), (74, .int .i64 ((xc.length : Nat) : Int)), (75, .int .i64 ((k : Nat) : Int))]) (.cons rfl (.cons rfl (.cons rfl (.cons rfl (.cons rfl .nil))))) (Gx.norm (l' := [Hp.rec_ b1 [.slice ax1 nx1 cx1, .int .i64 s.n, .int .i64 s.who, .int .i64 s.val, .slice ax2 nx2 cx2, .slice ax3 nx3 cx3]]) rfl ?_)
  refine Gx.seq ?_
  refine Gx.region ?_
  refine Gx.val rfl rfl rfl (val_lss rfl rfl rfl) ?_
  refine Gx.done ?_
  refine Gx.thenN ?_
  refine Gx.seq ?_
  refine Gx.dec rfl (fun h13 => ?_) (fun h13 => ?_)
  · refine Gx.skip ?_
    refine Gx.thenN ?_
    refine Gx.seq ?_
    refine Gx.block ?_
    refine Gx.seq ?_
    refine Gx.region ?_
    obtain ⟨x14, hx14⟩ := get_of_lt (xs := xc) (k := k) (by omega)
    refine Gx.val rfl rfl rfl (val_ixa rfl Try.underlying22 Try.ty2 rfl rfl (j := k) (rfl) (reach_base hxc hx14)) ?_
    refine Gx.val rfl rfl rfl (val_load rfl Try.ty2 rfl rfl (cell_base (i := 0) hxc hx14 rfl)) ?_
    refine Gx.val rfl rfl rfl (val_assign rfl rfl) ?_
    refine Gx.done ?_
    refine Gx.thenN ?_
    refine Gx.seq ?_
    refine Gx.region ?_
    refine Gx.val rfl rfl rfl (val_move rfl rfl) ?_
    refine Gx.val rfl rfl rfl (val_lss rfl rfl rfl) ?_
    refine Gx.val rfl rfl rfl (val_move rfl rfl) ?_
    refine Gx.cases (t := 81) rfl (fun h15 => ?_) (fun h15 => ?_)
    · refine Gx.skipg rfl rfl rfl rfl rfl rfl ?_
      refine Gx.skipg rfl rfl rfl rfl rfl rfl ?_
      refine Gx.val rfl rfl rfl (val_pickT rfl rfl rfl) ?_
      refine Gx.done ?_
      refine Gx.thenN ?_
      refine Gx.t rfl ?_
      refine Gx.seq ?_
      refine Gx.region ?_
      refine Gx.val rfl rfl rfl (val_assign rfl rfl) ?_
      refine Gx.done ?_
      refine Gx.thenN ?_
      refine Gx.ret ?_
      refine Gx.blkR ?_
      refine Gx.thenR ?_
      refine Gx.thenR ?_
      refine Gx.blkR ?_
      refine Gx.thenR ?_
      refine Gx.ret1 Try.results20 rfl ?_
      exact ⟨2, rfl, fun h => (by cases h), fun h => absurd h (bad_v hx14 (by unfold badV; exact decide_eq_true (by omega)))⟩
    refine Gx.valg rfl rfl rfl rfl rfl (val_move rfl rfl) ?_
    refine Gx.valg rfl rfl rfl rfl rfl (val_gtr rfl rfl rfl) ?_
    refine Gx.val rfl rfl rfl (val_pickF rfl rfl rfl) ?_
    refine Gx.done ?_
    refine Gx.thenN ?_
    refine Gx.dec rfl (fun h16 => ?_) (fun h16 => ?_)
    · refine Gx.seq ?_
      refine Gx.region ?_
      refine Gx.val rfl rfl rfl (val_assign rfl rfl) ?_
      refine Gx.done ?_
      refine Gx.thenN ?_
      refine Gx.ret ?_
      refine Gx.blkR ?_
      refine Gx.thenR ?_
      refine Gx.thenR ?_
      refine Gx.blkR ?_
      refine Gx.thenR ?_
      refine Gx.ret1 Try.results20 rfl ?_
      exact ⟨2, rfl, fun h => (by cases h), fun h => absurd h (bad_v hx14 (by unfold badV; exact decide_eq_true (by omega)))⟩
    refine Gx.skip ?_
    refine Gx.blkN ?_
    refine Gx.thenN ?_
    refine Gx.region ?_
    refine Gx.val rfl rfl rfl (val_add rfl rfl rfl (r := ((k + 1 : Nat) : Int)) (w64 (by omega) (by omega))) ?_
    refine Gx.val rfl rfl rfl (val_move rfl rfl) ?_
    refine Gx.done ?_
    refine Gx.thenN ?_
    exact Gx.round (k + 1) ⟨by first | omega | (dsimp only; omega), any_snoc hx14 hv (by unfold badV; exact decide_eq_false (by omega))⟩ (by first | omega | (dsimp only; omega)) ((.cons rfl (.cons rfl (.cons rfl (.cons rfl (.cons rfl .nil)))))) rfl
  refine Gx.exit ?_
  refine Gx.thenE ?_
  refine Gx.thenE ?_
  refine Gx.blkE ?_
  refine Gx.thenN ?_
  refine Gx.seq ?_
  rw [List.take_of_length_le (by omega)] at hv
  refine Gx.region ?_
  refine Gx.val rfl rfl rfl (val_assign rfl rfl) ?_
  refine Gx.done ?_
  refine Gx.thenN ?_
  refine Gx.seq ?_
  refine Gx.seq ?_
  refine Gx.region ?_
  refine Gx.val rfl rfl rfl (Val.cast (val_fieldAddr rfl Try.underlying27 rfl Try.ty25 rfl rfl) (v' := ptr b1 4) rfl) ?_
  refine Gx.val rfl rfl rfl (val_load rfl Try.ty25 rfl rfl (cell_rec (k := 0) rfl rfl)) ?_
  refine Gx.val rfl rfl rfl (Val.cast (val_fieldAddr rfl Try.underlying27 rfl Try.ty25 rfl rfl) (v' := ptr b1 5) rfl) ?_
  refine Gx.val rfl rfl rfl (val_load rfl Try.ty25 rfl rfl (cell_rec (k := 0) rfl rfl)) ?_
  refine Gx.eff rfl rfl rfl (eff_buildSlice rfl (qs := [(0, .slice ax2 nx2 cx2), (1, .slice ax3 nx3 cx3)]) rfl rfl (cs := #[.slice ax2 nx2 cx2, .slice ax3 nx3 cx3]) (vs := [.slice ax2 nx2 cx2, .slice ax3 nx3 cx3]) (E := 25) rfl (fun w => by first | (go_simp; done) | (go_simp; rfl))) ?_
  rintro _ _ ⟨b17, rfl, rfl⟩
  refine Gx.val rfl rfl rfl (val_len rfl Try.underlying70 rfl len_lit) ?_
  refine Gx.val rfl rfl rfl (val_move rfl rfl) ?_
  refine Gx.done ?_
  refine Gx.thenN ?_
  refine Gx.block ?_
  refine Gx.part (k := 0) rfl (q := Hp.own FV 1 (.slice (some ⟨b17, 0, none⟩) 2 2) ([(⟨ax2, nx2, cx2, xa⟩ : Vd), (⟨ax3, nx3, cx3, xg⟩ : Vd)])) (own_of_rec (f := FV) (xs := [(⟨ax2, nx2, cx2, xa⟩ : Vd), (⟨ax3, nx3, cx3, xg⟩ : Vd)]) FV_len rfl) ?_
  refine Gx.norm (l' := [Hp.own FV 1 (.slice (some ⟨b17, 0, none⟩) 2 2) ([(⟨ax2, nx2, cx2, xa⟩ : Vd), (⟨ax3, nx3, cx3, xg⟩ : Vd)]), Hp.rec_ b1 [.slice ax1 nx1 cx1, .int .i64 s.n, .int .i64 s.who, .int .i64 s.val, .slice ax2 nx2 cx2, .slice ax3 nx3 cx3]]) rfl ?_
  refine Gx.loop (ι := Nat × Bool) (fun ξ => (ξ.1 ≤ 2) ∧ (ξ.2 = false ↔ RO xa xg ξ.1) ∧ (BO n xa xg ξ.1)) (fun ξ => [(0, .int .i64 n), (3, ptr b1 0), (90, .slice (some ⟨b17, 0, none⟩) 2 2), (91, .int .i64 2), (7, .bool ξ.2), (92, .int .i64 ((ξ.1 : Nat) : Int))]) (fun ξ => [Hp.own FV 1 (.slice (some ⟨b17, 0, none⟩) 2 2) ([(⟨ax2, nx2, cx2, xa⟩ : Vd), (⟨ax3, nx3, cx3, xg⟩ : Vd)]), Hp.rec_ b1 [.slice ax1 nx1 cx1, .int .i64 s.n, .int .i64 s.who, .int .i64 s.val, .slice ax2 nx2 cx2, .slice ax3 nx3 cx3]]) (fun ξ => 2 - ξ.1) (0, false) ⟨by first | omega | (dsimp only; omega), ⟨fun _ => trivial, fun _ => rfl⟩, trivial⟩ ((.cons rfl (.cons rfl (.cons rfl (.cons rfl (.cons rfl (.cons rfl .nil))))))) rfl ?_
  rintro ⟨q, f2⟩ ⟨hq, hf2, hb2⟩
  dsimp only at hq hf2 hb2
  refine Gx.know (m' := [(0, .int .i64 n), (3, ptr b1 0), (90, .slice (some ⟨b17, 0, none⟩) 2 2), (91, .int .i64 2), (7, .bool f2), (92, .int .i64 ((q : Nat) : Int))]) (.cons rfl (.cons rfl (.cons rfl (.cons rfl (.cons rfl (.cons rfl .nil)))))) (Gx.norm (l' := [Hp.own FV 1 (.slice (some ⟨b17, 0, none⟩) 2 2) ([(⟨ax2, nx2, cx2, xa⟩ : Vd), (⟨ax3, nx3, cx3, xg⟩ : Vd)]), Hp.rec_ b1 [.slice ax1 nx1 cx1, .int .i64 s.n, .int .i64 s.who, .int .i64 s.val, .slice ax2 nx2 cx2, .slice ax3 nx3 cx3]]) rfl ?_)
  rcases (show q = 0 ∨ q = 1 ∨ q = 2 from by omega) with rfl | rfl | rfl
  · refine Gx.know (m' := [(0, .int .i64 n), (3, ptr b1 0), (90, .slice (some ⟨b17, 0, none⟩) 2 2), (91, .int .i64 2), (7, .bool f2), (92, .int .i64 0)]) (.cons rfl (.cons rfl (.cons rfl (.cons rfl (.cons rfl (.cons rfl .nil)))))) (Gx.norm (l' := [Hp.own FV 1 (.slice (some ⟨b17, 0, none⟩) 2 2) ([(⟨ax2, nx2, cx2, xa⟩ : Vd), (⟨ax3, nx3, cx3, xg⟩ : Vd)]), Hp.rec_ b1 [.slice ax1 nx1 cx1, .int .i64 s.n, .int .i64 s.who, .int .i64 s.val, .slice ax2 nx2 cx2, .slice ax3 nx3 cx3]]) rfl ?_)
    refine Gx.seq ?_
    refine Gx.region ?_
    refine Gx.val rfl rfl rfl (Val.cast (val_lss rfl rfl rfl) (v' := .bool true) rfl) ?_
    refine Gx.done ?_
    refine Gx.thenN ?_
    refine Gx.seq ?_
    refine Gx.t rfl ?_
    refine Gx.skip ?_
    refine Gx.thenN ?_
    refine Gx.seq ?_
    refine Gx.block ?_
    refine Gx.seq ?_
    refine Gx.region ?_
    refine Gx.val rfl rfl rfl (val_ixa rfl Try.underlying70 Try.ty25 rfl rfl (j := 0) (rfl) (reach_own (k := 0) rfl (show [(⟨ax2, nx2, cx2, xa⟩ : Vd), (⟨ax3, nx3, cx3, xg⟩ : Vd)][0]? = some (⟨ax2, nx2, cx2, xa⟩ : Vd) from rfl))) ?_
    refine Gx.val rfl rfl rfl (val_load rfl Try.ty25 rfl rfl (cell_own (i := 0) (sz := 1) (j := 0) (k := 0) rfl (show [(⟨ax2, nx2, cx2, xa⟩ : Vd), (⟨ax3, nx3, cx3, xg⟩ : Vd)][0]? = some (⟨ax2, nx2, cx2, xa⟩ : Vd) from rfl) rfl)) ?_
    refine Gx.val rfl rfl rfl (val_assign rfl rfl) ?_
    refine Gx.done ?_
    refine Gx.thenN ?_
    refine Gx.seq ?_
    refine Gx.region ?_
    refine Gx.val rfl rfl rfl (val_move rfl rfl) ?_
    refine Gx.val rfl rfl rfl (val_len rfl Try.underlying25 rfl (len_base hxa)) ?_
    refine Gx.val rfl rfl rfl (val_move rfl rfl) ?_
    refine Gx.done ?_
    refine Gx.thenN ?_
    refine Gx.block ?_
    refine Gx.loop (ι := Nat × Bool) (fun ξ => (ξ.1 ≤ xa.length) ∧ (ξ.2 = false ↔ (RO xa xg 0 ∧ Rises (xa.take ξ.1))) ∧ ((xa.take ξ.1).any (badD n) = false)) (fun ξ => [(0, .int .i64 n), (3, ptr b1 0), (90, .slice (some ⟨b17, 0, none⟩) 2 2), (91, .int .i64 2), (92, .int .i64 0), (9, .slice ax2 nx2 cx2), (96, .slice ax2 nx2 cx2), (97, .int .i64 ((xa.length : Nat) : Int)), (7, .bool ξ.2), (98, .int .i64 ((ξ.1 : Nat) : Int))]) (fun ξ => [Hp.own FV 1 (.slice (some ⟨b17, 0, none⟩) 2 2) ([(⟨ax2, nx2, cx2, xa⟩ : Vd), (⟨ax3, nx3, cx3, xg⟩ : Vd)]), Hp.rec_ b1 [.slice ax1 nx1 cx1, .int .i64 s.n, .int .i64 s.who, .int .i64 s.val, .slice ax2 nx2 cx2, .slice ax3 nx3 cx3]]) (fun ξ => xa.length - ξ.1) (0, f2) ⟨by first | omega | (dsimp only; omega), hf2.trans ⟨fun h => ⟨h, rises_nil⟩, fun h => h.1⟩, rfl⟩ ((.cons rfl (.cons rfl (.cons rfl (.cons rfl (.cons rfl (.cons rfl (.cons rfl (.cons rfl (.cons rfl (.cons rfl .nil))))))))))) rfl ?_
    rintro ⟨k3, f3⟩ ⟨hk3, hf3, hb3⟩
    dsimp only at hk3 hf3 hb3
    refine Gx.know (m' := [(0, .int .i64 n), (3, ptr b1 0), (90, .slice (some ⟨b17, 0, none⟩) 2 2), (91, .int .i64 2), (92, .int .i64 0), (9, .slice ax2 nx2 cx2), (96, .slice ax2 nx2 cx2), (97, .int .i64 ((xa.length : Nat) : Int)), (7, .bool f3), (98, .int .i64 ((k3 : Nat) : Int))]) (.cons rfl (.cons rfl (.cons rfl (.cons rfl (.cons rfl (.cons rfl (.cons rfl (.cons rfl (.cons rfl (.cons rfl .nil)))))))))) (Gx.norm (l' := [Hp.own FV 1 (.slice (some ⟨b17, 0, none⟩) 2 2) ([(⟨ax2, nx2, cx2, xa⟩ : Vd), (⟨ax3, nx3, cx3, xg⟩ : Vd)]), Hp.rec_ b1 [.slice ax1 nx1 cx1, .int .i64 s.n, .int .i64 s.who, .int .i64 s.val, .slice ax2 nx2 cx2, .slice ax3 nx3 cx3]]) rfl ?_)
    refine Gx.seq ?_
    refine Gx.region ?_
    refine Gx.val rfl rfl rfl (val_lss rfl rfl rfl) ?_
    refine Gx.done ?_
    refine Gx.thenN ?_
    refine Gx.seq ?_
    refine Gx.dec rfl (fun h18 => ?_) (fun h18 => ?_)
    · refine Gx.skip ?_
      refine Gx.thenN ?_
      refine Gx.seq ?_
      refine Gx.block ?_
      refine Gx.seq ?_
      refine Gx.region ?_
      refine Gx.val rfl rfl rfl (val_move rfl rfl) ?_
      obtain ⟨x19, hx19⟩ := get_of_lt (xs := xa) (k := k3) (by omega)
      refine Gx.val rfl rfl rfl (val_ixa rfl Try.underlying25 Try.ty59 rfl rfl (j := k3) (rfl) (reach_base hxa hx19)) ?_
      refine Gx.val rfl rfl rfl (Val.cast (val_loadA rfl Try.ty59 rfl rfl rfl (cells_base hxa hx19)) (v' := .agg #[.int .i64 x19.item, .int .i64 x19.who, .int .i64 x19.n]) rfl) ?_
      refine Gx.eff rfl rfl rfl (eff_alloc rfl Try.ty59 (vs := [.int .i64 0, .int .i64 0, .int .i64 0]) rfl) ?_
      rintro _ _ ⟨b20, rfl, rfl⟩
      refine Gx.val rfl rfl rfl (val_assign rfl rfl) ?_
      refine Gx.eff0 rfl rfl (eff_store rfl Try.ty59 rfl rfl (us := [.int .i64 x19.item, .int .i64 x19.who, .int .i64 x19.n]) rfl rfl rfl (k := 0) rfl (rfl) (vs' := [.int .i64 x19.item, .int .i64 x19.who, .int .i64 x19.n]) (rfl) (l' := [Hp.rec_ b20 [.int .i64 x19.item, .int .i64 x19.who, .int .i64 x19.n], Hp.own FV 1 (.slice (some ⟨b17, 0, none⟩) 2 2) ([(⟨ax2, nx2, cx2, xa⟩ : Vd), (⟨ax3, nx3, cx3, xg⟩ : Vd)]), Hp.rec_ b1 [.slice ax1 nx1 cx1, .int .i64 s.n, .int .i64 s.who, .int .i64 s.val, .slice ax2 nx2 cx2, .slice ax3 nx3 cx3]]) rfl) ?_
      rintro _ _ rfl
      refine Gx.done ?_
      refine Gx.thenN ?_
      refine Gx.meet (ι := Unit) (fun ξ => (badD n x19 = false)) (fun ξ => [(0, .int .i64 n), (3, ptr b1 0), (90, .slice (some ⟨b17, 0, none⟩) 2 2), (91, .int .i64 2), (92, .int .i64 0), (9, .slice ax2 nx2 cx2), (96, .slice ax2 nx2 cx2), (97, .int .i64 ((xa.length : Nat) : Int)), (7, .bool f3), (98, .int .i64 ((k3 : Nat) : Int)), (11, ptr b20 0), (10, .int .i64 ((k3 : Nat) : Int))]) (fun ξ => [Hp.rec_ b20 [.int .i64 x19.item, .int .i64 x19.who, .int .i64 x19.n], Hp.own FV 1 (.slice (some ⟨b17, 0, none⟩) 2 2) ([(⟨ax2, nx2, cx2, xa⟩ : Vd), (⟨ax3, nx3, cx3, xg⟩ : Vd)]), Hp.rec_ b1 [.slice ax1 nx1 cx1, .int .i64 s.n, .int .i64 s.who, .int .i64 s.val, .slice ax2 nx2 cx2, .slice ax3 nx3 cx3]]) ?_ ?_
      · refine Gx.seq ?_
        refine Gx.region ?_
        refine Gx.val rfl rfl rfl (Val.cast (val_fieldAddr rfl Try.underlying59 rfl Try.ty3 rfl rfl) (v' := ptr b20 0) rfl) ?_
        refine Gx.val rfl rfl rfl (val_load rfl Try.ty3 rfl rfl (cell_rec (k := 0) rfl rfl)) ?_
        refine Gx.val rfl rfl rfl (val_lss rfl rfl rfl) ?_
        refine Gx.val rfl rfl rfl (val_move rfl rfl) ?_
        refine Gx.cases (t := 106) rfl (fun h21 => ?_) (fun h21 => ?_)
        · refine Gx.skipg rfl rfl rfl rfl rfl rfl ?_
          refine Gx.skipg rfl rfl rfl rfl rfl rfl ?_
          refine Gx.skipg rfl rfl rfl rfl rfl rfl ?_
          refine Gx.val rfl rfl rfl (val_pickT rfl rfl rfl) ?_
          refine Gx.val rfl rfl rfl (val_move rfl rfl) ?_
          refine Gx.skipg rfl rfl rfl rfl rfl rfl ?_
          refine Gx.skipg rfl rfl rfl rfl rfl rfl ?_
          refine Gx.skipg rfl rfl rfl rfl rfl rfl ?_
          refine Gx.val rfl rfl rfl (val_pickT rfl rfl rfl) ?_
          refine Gx.val rfl rfl rfl (val_move rfl rfl) ?_
          refine Gx.skipg rfl rfl rfl rfl rfl rfl ?_
          refine Gx.skipg rfl rfl rfl rfl rfl rfl ?_
          refine Gx.skipg rfl rfl rfl rfl rfl rfl ?_
          refine Gx.skipg rfl rfl rfl rfl rfl rfl ?_
          refine Gx.val rfl rfl rfl (val_pickT rfl rfl rfl) ?_
          refine Gx.val rfl rfl rfl (val_move rfl rfl) ?_
          refine Gx.skipg rfl rfl rfl rfl rfl rfl ?_
          refine Gx.skipg rfl rfl rfl rfl rfl rfl ?_
          refine Gx.skipg rfl rfl rfl rfl rfl rfl ?_
          refine Gx.val rfl rfl rfl (val_pickT rfl rfl rfl) ?_
          refine Gx.done ?_
          refine Gx.thenN ?_
          refine Gx.t rfl ?_
          refine Gx.seq ?_
          refine Gx.region ?_
          refine Gx.val rfl rfl rfl (val_assign rfl rfl) ?_
          refine Gx.done ?_
          refine Gx.thenN ?_
          refine Gx.ret ?_
          refine Gx.thenR ?_
          refine Gx.blkR ?_
          refine Gx.thenR ?_
          refine Gx.thenR ?_
          refine Gx.blkR ?_
          refine Gx.blkR ?_
          refine Gx.thenR ?_
          refine Gx.thenR ?_
          refine Gx.blkR ?_
          refine Gx.thenR ?_
          refine Gx.ret1 Try.results20 rfl ?_
          exact ⟨2, rfl, fun h => (by cases h), fun h => absurd h (bad_a hx19 (by unfold badD; exact decide_eq_true (by omega)))⟩
        refine Gx.valg rfl rfl rfl rfl rfl (Val.cast (val_fieldAddr rfl Try.underlying59 rfl Try.ty3 rfl rfl) (v' := ptr b20 0) rfl) ?_
        refine Gx.valg rfl rfl rfl rfl rfl (val_load rfl Try.ty3 rfl rfl (cell_rec (k := 0) rfl rfl)) ?_
        refine Gx.valg rfl rfl rfl rfl rfl (val_geq rfl rfl rfl) ?_
        refine Gx.val rfl rfl rfl (val_pickF rfl rfl rfl) ?_
        refine Gx.val rfl rfl rfl (val_move rfl rfl) ?_
        refine Gx.cases (t := 111) rfl (fun h22 => ?_) (fun h22 => ?_)
        · refine Gx.skipg rfl rfl rfl rfl rfl rfl ?_
          refine Gx.skipg rfl rfl rfl rfl rfl rfl ?_
          refine Gx.skipg rfl rfl rfl rfl rfl rfl ?_
          refine Gx.val rfl rfl rfl (val_pickT rfl rfl rfl) ?_
          refine Gx.val rfl rfl rfl (val_move rfl rfl) ?_
          refine Gx.skipg rfl rfl rfl rfl rfl rfl ?_
          refine Gx.skipg rfl rfl rfl rfl rfl rfl ?_
          refine Gx.skipg rfl rfl rfl rfl rfl rfl ?_
          refine Gx.skipg rfl rfl rfl rfl rfl rfl ?_
          refine Gx.val rfl rfl rfl (val_pickT rfl rfl rfl) ?_
          refine Gx.val rfl rfl rfl (val_move rfl rfl) ?_
          refine Gx.skipg rfl rfl rfl rfl rfl rfl ?_
          refine Gx.skipg rfl rfl rfl rfl rfl rfl ?_
          refine Gx.skipg rfl rfl rfl rfl rfl rfl ?_
          refine Gx.val rfl rfl rfl (val_pickT rfl rfl rfl) ?_
          refine Gx.done ?_
          refine Gx.thenN ?_
          refine Gx.t rfl ?_
          refine Gx.seq ?_
          refine Gx.region ?_
          refine Gx.val rfl rfl rfl (val_assign rfl rfl) ?_
          refine Gx.done ?_
          refine Gx.thenN ?_
          refine Gx.ret ?_
          refine Gx.thenR ?_
          refine Gx.blkR ?_
          refine Gx.thenR ?_
          refine Gx.thenR ?_
          refine Gx.blkR ?_
          refine Gx.blkR ?_
          refine Gx.thenR ?_
          refine Gx.thenR ?_
          refine Gx.blkR ?_
          refine Gx.thenR ?_
          refine Gx.ret1 Try.results20 rfl ?_
          exact ⟨2, rfl, fun h => (by cases h), fun h => absurd h (bad_a hx19 (by unfold badD; exact decide_eq_true (by omega)))⟩
        refine Gx.valg rfl rfl rfl rfl rfl (Val.cast (val_fieldAddr rfl Try.underlying59 rfl Try.ty3 rfl rfl) (v' := ptr b20 1) rfl) ?_
        refine Gx.valg rfl rfl rfl rfl rfl (val_load rfl Try.ty3 rfl rfl (cell_rec (k := 0) rfl rfl)) ?_
        refine Gx.valg rfl rfl rfl rfl rfl (val_lss rfl rfl rfl) ?_
        refine Gx.val rfl rfl rfl (val_pickF rfl rfl rfl) ?_
        refine Gx.val rfl rfl rfl (val_move rfl rfl) ?_
        refine Gx.cases (t := 116) rfl (fun h23 => ?_) (fun h23 => ?_)
        · refine Gx.skipg rfl rfl rfl rfl rfl rfl ?_
          refine Gx.skipg rfl rfl rfl rfl rfl rfl ?_
          refine Gx.skipg rfl rfl rfl rfl rfl rfl ?_
          refine Gx.skipg rfl rfl rfl rfl rfl rfl ?_
          refine Gx.val rfl rfl rfl (val_pickT rfl rfl rfl) ?_
          refine Gx.val rfl rfl rfl (val_move rfl rfl) ?_
          refine Gx.skipg rfl rfl rfl rfl rfl rfl ?_
          refine Gx.skipg rfl rfl rfl rfl rfl rfl ?_
          refine Gx.skipg rfl rfl rfl rfl rfl rfl ?_
          refine Gx.val rfl rfl rfl (val_pickT rfl rfl rfl) ?_
          refine Gx.done ?_
          refine Gx.thenN ?_
          refine Gx.t rfl ?_
          refine Gx.seq ?_
          refine Gx.region ?_
          refine Gx.val rfl rfl rfl (val_assign rfl rfl) ?_
          refine Gx.done ?_
          refine Gx.thenN ?_
          refine Gx.ret ?_
          refine Gx.thenR ?_
          refine Gx.blkR ?_
          refine Gx.thenR ?_
          refine Gx.thenR ?_
          refine Gx.blkR ?_
          refine Gx.blkR ?_
          refine Gx.thenR ?_
          refine Gx.thenR ?_
          refine Gx.blkR ?_
          refine Gx.thenR ?_
          refine Gx.ret1 Try.results20 rfl ?_
          exact ⟨2, rfl, fun h => (by cases h), fun h => absurd h (bad_a hx19 (by unfold badD; exact decide_eq_true (by omega)))⟩
        refine Gx.valg rfl rfl rfl rfl rfl (Val.cast (val_fieldAddr rfl Try.underlying59 rfl Try.ty3 rfl rfl) (v' := ptr b20 1) rfl) ?_
        refine Gx.valg rfl rfl rfl rfl rfl (val_load rfl Try.ty3 rfl rfl (cell_rec (k := 0) rfl rfl)) ?_
        refine Gx.valg rfl rfl rfl rfl rfl (val_move rfl rfl) ?_
        refine Gx.valg rfl rfl rfl rfl rfl (val_geq rfl rfl rfl) ?_
        refine Gx.val rfl rfl rfl (val_pickF rfl rfl rfl) ?_
        refine Gx.val rfl rfl rfl (val_move rfl rfl) ?_
        refine Gx.cases (t := 122) rfl (fun h24 => ?_) (fun h24 => ?_)
        · refine Gx.skipg rfl rfl rfl rfl rfl rfl ?_
          refine Gx.skipg rfl rfl rfl rfl rfl rfl ?_
          refine Gx.skipg rfl rfl rfl rfl rfl rfl ?_
          refine Gx.val rfl rfl rfl (val_pickT rfl rfl rfl) ?_
          refine Gx.done ?_
          refine Gx.thenN ?_
          refine Gx.t rfl ?_
          refine Gx.seq ?_
          refine Gx.region ?_
          refine Gx.val rfl rfl rfl (val_assign rfl rfl) ?_
          refine Gx.done ?_
          refine Gx.thenN ?_
          refine Gx.ret ?_
          refine Gx.thenR ?_
          refine Gx.blkR ?_
          refine Gx.thenR ?_
          refine Gx.thenR ?_
          refine Gx.blkR ?_
          refine Gx.blkR ?_
          refine Gx.thenR ?_
          refine Gx.thenR ?_
          refine Gx.blkR ?_
          refine Gx.thenR ?_
          refine Gx.ret1 Try.results20 rfl ?_
          exact ⟨2, rfl, fun h => (by cases h), fun h => absurd h (bad_a hx19 (by unfold badD; exact decide_eq_true (by omega)))⟩
        refine Gx.valg rfl rfl rfl rfl rfl (Val.cast (val_fieldAddr rfl Try.underlying59 rfl Try.ty3 rfl rfl) (v' := ptr b20 2) rfl) ?_
        refine Gx.valg rfl rfl rfl rfl rfl (val_load rfl Try.ty3 rfl rfl (cell_rec (k := 0) rfl rfl)) ?_
        refine Gx.valg rfl rfl rfl rfl rfl (val_lss rfl rfl rfl) ?_
        refine Gx.val rfl rfl rfl (val_pickF rfl rfl rfl) ?_
        refine Gx.done ?_
        refine Gx.thenN ?_
        refine Gx.dec rfl (fun h25 => ?_) (fun h25 => ?_)
        · refine Gx.seq ?_
          refine Gx.region ?_
          refine Gx.val rfl rfl rfl (val_assign rfl rfl) ?_
          refine Gx.done ?_
          refine Gx.thenN ?_
          refine Gx.ret ?_
          refine Gx.thenR ?_
          refine Gx.blkR ?_
          refine Gx.thenR ?_
          refine Gx.thenR ?_
          refine Gx.blkR ?_
          refine Gx.blkR ?_
          refine Gx.thenR ?_
          refine Gx.thenR ?_
          refine Gx.blkR ?_
          refine Gx.thenR ?_
          refine Gx.ret1 Try.results20 rfl ?_
          exact ⟨2, rfl, fun h => (by cases h), fun h => absurd h (bad_a hx19 (by unfold badD; exact decide_eq_true (by omega)))⟩
        refine Gx.skip ?_
        refine Gx.thenN ?_
        exact Gx.fam () (by unfold badD; exact decide_eq_false (by omega)) ((.cons rfl (.cons rfl (.cons rfl (.cons rfl (.cons rfl (.cons rfl (.cons rfl (.cons rfl (.cons rfl (.cons rfl (.cons rfl (.cons rfl .nil))))))))))))) rfl
      rintro _ hbd
      refine Gx.know (m' := [(0, .int .i64 n), (3, ptr b1 0), (90, .slice (some ⟨b17, 0, none⟩) 2 2), (91, .int .i64 2), (92, .int .i64 0), (9, .slice ax2 nx2 cx2), (96, .slice ax2 nx2 cx2), (97, .int .i64 ((xa.length : Nat) : Int)), (7, .bool f3), (98, .int .i64 ((k3 : Nat) : Int)), (11, ptr b20 0), (10, .int .i64 ((k3 : Nat) : Int))]) (.cons rfl (.cons rfl (.cons rfl (.cons rfl (.cons rfl (.cons rfl (.cons rfl (.cons rfl (.cons rfl (.cons rfl (.cons rfl (.cons rfl .nil)))))))))))) (Gx.norm (l' := [Hp.rec_ b20 [.int .i64 x19.item, .int .i64 x19.who, .int .i64 x19.n], Hp.own FV 1 (.slice (some ⟨b17, 0, none⟩) 2 2) ([(⟨ax2, nx2, cx2, xa⟩ : Vd), (⟨ax3, nx3, cx3, xg⟩ : Vd)]), Hp.rec_ b1 [.slice ax1 nx1 cx1, .int .i64 s.n, .int .i64 s.who, .int .i64 s.val, .slice ax2 nx2 cx2, .slice ax3 nx3 cx3]]) rfl ?_)
      refine Gx.regionQ Try.mixed (by kernel_rfl) ?_
      refine Gq.val rfl rfl rfl (val_move rfl rfl) ?_
      refine Gq.val rfl rfl rfl (val_move rfl rfl) ?_
      refine Gq.casesB (t := 128) rfl (fun h26 => ?_) (fun h26 => ?_)
      · refine Gq.skipg rfl rfl rfl rfl rfl rfl ?_
        refine Gq.skipg rfl rfl rfl rfl rfl rfl ?_
        refine Gq.skipg rfl rfl rfl rfl rfl rfl ?_
        refine Gq.skipu rfl rfl rfl rfl rfl ?_
        refine Gq.skipu rfl rfl rfl rfl rfl ?_
        refine Gq.skipu rfl rfl rfl rfl rfl ?_
        refine Gq.skipu rfl rfl rfl rfl rfl ?_
        refine Gq.skipu rfl rfl rfl rfl rfl ?_
        refine Gq.skipu rfl rfl rfl rfl rfl ?_
        refine Gq.skipu rfl rfl rfl rfl rfl ?_
        refine Gq.skipu rfl rfl rfl rfl rfl ?_
        refine Gq.skipg rfl rfl rfl rfl rfl rfl ?_
        refine Gq.val rfl rfl rfl (val_pickT rfl rfl rfl) ?_
        refine Gq.val rfl rfl rfl (val_assign rfl rfl) ?_
        refine Gq.done ?_
        refine Gx.blkN ?_
        refine Gx.thenN ?_
        refine Gx.region ?_
        refine Gx.val rfl rfl rfl (val_add rfl rfl rfl (r := ((k3 + 1 : Nat) : Int)) (w64 (by omega) (by omega))) ?_
        refine Gx.val rfl rfl rfl (val_move rfl rfl) ?_
        refine Gx.done ?_
        refine Gx.thenN ?_
        refine Gx.drop 0 rfl ?_
        exact Gx.round (k3 + 1, true) ⟨by first | omega | (dsimp only; omega), ⟨fun h => (by cases h), fun h => absurd (hf3.2 ⟨h.1, ((rises_snoc hx19).1 h.2).1⟩) (by rw [h26]; decide)⟩, any_snoc hx19 hb3 hbd⟩ (by first | omega | (dsimp only; omega)) ((.cons rfl (.cons rfl (.cons rfl (.cons rfl (.cons rfl (.cons rfl (.cons rfl (.cons rfl (.cons rfl (.cons rfl .nil))))))))))) rfl
      refine Gq.valg rfl rfl rfl rfl rfl (val_move rfl rfl) ?_
      refine Gq.valg rfl rfl rfl rfl rfl (val_gtr rfl rfl rfl) ?_
      refine Gq.valg rfl rfl rfl rfl rfl (val_move rfl rfl) ?_
      refine Gq.cases (t := 131) rfl (fun h27 => ?_) (fun h27 => ?_)
      · refine Gq.valg rfl rfl rfl rfl rfl (val_move rfl rfl) ?_
        refine Gq.valg rfl rfl rfl rfl rfl (val_move rfl rfl) ?_
        refine Gq.valg rfl rfl rfl rfl rfl (val_sub rfl rfl rfl (r := ((k3 - 1 : Nat) : Int)) (w64 (by omega) (by omega))) ?_
        obtain ⟨x28, hx28⟩ := get_of_lt (xs := xa) (k := k3 - 1) (by omega)
        refine Gq.valg rfl rfl rfl rfl rfl (val_ixa rfl Try.underlying25 Try.ty59 rfl rfl (j := k3 - 1) (rfl) (reach_base hxa hx28)) ?_
        refine Gq.valg rfl rfl rfl rfl rfl (Val.cast (val_loadA rfl Try.ty59 rfl rfl rfl (cells_base (sz := 3) (j := k3 - 1) hxa hx28)) (v' := .agg #[.int .i64 x28.item, .int .i64 x28.who, .int .i64 x28.n]) rfl) ?_
        refine Gq.valg rfl rfl rfl rfl rfl (Val.cast (val_loadA rfl Try.ty59 rfl rfl rfl (cells_rec (k := 0) rfl)) (v' := .agg #[.int .i64 x19.item, .int .i64 x19.who, .int .i64 x19.n]) rfl) ?_
        refine Gq.valg rfl rfl rfl rfl rfl (val_call (vs := [.agg #[.int .i64 x28.item, .int .i64 x28.who, .int .i64 x28.n], .agg #[.int .i64 x19.item, .int .i64 x19.who, .int .i64 x19.n]]) rfl Try.fn34 rfl (fun w H => dotless_any x28 x19)) ?_
        refine Gq.valg rfl rfl rfl rfl rfl (val_notD rfl rfl) ?_
        refine Gq.valg rfl rfl rfl rfl rfl (val_pickT rfl rfl rfl) ?_
        refine Gq.val rfl rfl rfl (val_pickF rfl rfl rfl) ?_
        refine Gq.val rfl rfl rfl (val_assign rfl rfl) ?_
        refine Gq.done ?_
        refine Gx.blkN ?_
        refine Gx.thenN ?_
        refine Gx.region ?_
        refine Gx.val rfl rfl rfl (val_add rfl rfl rfl (r := ((k3 + 1 : Nat) : Int)) (w64 (by omega) (by omega))) ?_
        refine Gx.val rfl rfl rfl (val_move rfl rfl) ?_
        refine Gx.done ?_
        refine Gx.thenN ?_
        refine Gx.drop 0 rfl ?_
        exact Gx.round (k3 + 1, decide (¬(dotC x28 x19 < 0))) ⟨by first | omega | (dsimp only; omega), by
          rw [rises_snoc hx19, decide_eq_false_iff_not, Classical.not_not]
          exact ⟨fun h => ⟨(hf3.1 h26).1, (hf3.1 h26).2, fun z _ hz => by rw [hx28] at hz; cases hz; exact h⟩, fun h => h.2.2 _ (by omega) hx28⟩, any_snoc hx19 hb3 hbd⟩ (by first | omega | (dsimp only; omega)) ((.cons rfl (.cons rfl (.cons rfl (.cons rfl (.cons rfl (.cons rfl (.cons rfl (.cons rfl (.cons rfl (.cons rfl .nil))))))))))) rfl
      refine Gq.skipg rfl rfl rfl rfl rfl rfl ?_
      refine Gq.skipg rfl rfl rfl rfl rfl rfl ?_
      refine Gq.skipg rfl rfl rfl rfl rfl rfl ?_
      refine Gq.skipg rfl rfl rfl rfl rfl rfl ?_
      refine Gq.skipg rfl rfl rfl rfl rfl rfl ?_
      refine Gq.skipg rfl rfl rfl rfl rfl rfl ?_
      refine Gq.skipg rfl rfl rfl rfl rfl rfl ?_
      refine Gq.skipg rfl rfl rfl rfl rfl rfl ?_
      refine Gq.valg rfl rfl rfl rfl rfl (val_pickF rfl rfl rfl) ?_
      refine Gq.val rfl rfl rfl (val_pickF rfl rfl rfl) ?_
      refine Gq.val rfl rfl rfl (val_assign rfl rfl) ?_
      refine Gq.done ?_
      refine Gx.blkN ?_
      refine Gx.thenN ?_
      refine Gx.region ?_
      refine Gx.val rfl rfl rfl (val_add rfl rfl rfl (r := ((k3 + 1 : Nat) : Int)) (w64 (by omega) (by omega))) ?_
      refine Gx.val rfl rfl rfl (val_move rfl rfl) ?_
      refine Gx.done ?_
      refine Gx.thenN ?_
      refine Gx.drop 0 rfl ?_
      exact Gx.round (k3 + 1, false) ⟨by first | omega | (dsimp only; omega), ⟨fun _ => ⟨(hf3.1 h26).1, (rises_snoc hx19).2 ⟨(hf3.1 h26).2, fun x h => absurd h (by omega)⟩⟩, fun _ => rfl⟩, any_snoc hx19 hb3 hbd⟩ (by first | omega | (dsimp only; omega)) ((.cons rfl (.cons rfl (.cons rfl (.cons rfl (.cons rfl (.cons rfl (.cons rfl (.cons rfl (.cons rfl (.cons rfl .nil))))))))))) rfl
    refine Gx.exit ?_
    refine Gx.thenE ?_
    refine Gx.thenE ?_
    refine Gx.blkE ?_
    refine Gx.blkN ?_
    refine Gx.thenN ?_
    refine Gx.region ?_
    refine Gx.val rfl rfl rfl (val_add rfl rfl rfl (r := 1) (w64 (by omega) (by omega))) ?_
    refine Gx.val rfl rfl rfl (val_move rfl rfl) ?_
    refine Gx.done ?_
    refine Gx.thenN ?_
    exact Gx.round (1, f3) ⟨by first | omega | (dsimp only; omega), by rw [List.take_of_length_le (by omega)] at hf3; exact hf3.trans ⟨fun h => h.2, fun h => ⟨trivial, h⟩⟩, by rw [List.take_of_length_le (by omega)] at hb3; exact hb3⟩ (by first | omega | (dsimp only; omega)) ((.cons rfl (.cons rfl (.cons rfl (.cons rfl (.cons rfl (.cons rfl .nil))))))) rfl
  · refine Gx.know (m' := [(0, .int .i64 n), (3, ptr b1 0), (90, .slice (some ⟨b17, 0, none⟩) 2 2), (91, .int .i64 2), (7, .bool f2), (92, .int .i64 1)]) (.cons rfl (.cons rfl (.cons rfl (.cons rfl (.cons rfl (.cons rfl .nil)))))) (Gx.norm (l' := [Hp.own FV 1 (.slice (some ⟨b17, 0, none⟩) 2 2) ([(⟨ax2, nx2, cx2, xa⟩ : Vd), (⟨ax3, nx3, cx3, xg⟩ : Vd)]), Hp.rec_ b1 [.slice ax1 nx1 cx1, .int .i64 s.n, .int .i64 s.who, .int .i64 s.val, .slice ax2 nx2 cx2, .slice ax3 nx3 cx3]]) rfl ?_)
    refine Gx.seq ?_
    refine Gx.region ?_
    refine Gx.val rfl rfl rfl (Val.cast (val_lss rfl rfl rfl) (v' := .bool true) rfl) ?_
    refine Gx.done ?_
    refine Gx.thenN ?_
    refine Gx.seq ?_
    refine Gx.t rfl ?_
    refine Gx.skip ?_
    refine Gx.thenN ?_
    refine Gx.seq ?_
    refine Gx.block ?_
    refine Gx.seq ?_
    refine Gx.region ?_
    refine Gx.val rfl rfl rfl (val_ixa rfl Try.underlying70 Try.ty25 rfl rfl (j := 1) (rfl) (reach_own (k := 0) rfl (show [(⟨ax2, nx2, cx2, xa⟩ : Vd), (⟨ax3, nx3, cx3, xg⟩ : Vd)][1]? = some (⟨ax3, nx3, cx3, xg⟩ : Vd) from rfl))) ?_
    refine Gx.val rfl rfl rfl (val_load rfl Try.ty25 rfl rfl (cell_own (i := 0) (sz := 1) (j := 1) (k := 0) rfl (show [(⟨ax2, nx2, cx2, xa⟩ : Vd), (⟨ax3, nx3, cx3, xg⟩ : Vd)][1]? = some (⟨ax3, nx3, cx3, xg⟩ : Vd) from rfl) rfl)) ?_
    refine Gx.val rfl rfl rfl (val_assign rfl rfl) ?_
    refine Gx.done ?_
    refine Gx.thenN ?_
    refine Gx.seq ?_
    refine Gx.region ?_
    refine Gx.val rfl rfl rfl (val_move rfl rfl) ?_
    refine Gx.val rfl rfl rfl (val_len rfl Try.underlying25 rfl (len_base hxg)) ?_
    refine Gx.val rfl rfl rfl (val_move rfl rfl) ?_
    refine Gx.done ?_
    refine Gx.thenN ?_
    refine Gx.block ?_
    refine Gx.loop (ι := Nat × Bool) (fun ξ => (ξ.1 ≤ xg.length) ∧ (ξ.2 = false ↔ (RO xa xg 1 ∧ Rises (xg.take ξ.1))) ∧ ((xg.take ξ.1).any (badD n) = false)) (fun ξ => [(0, .int .i64 n), (3, ptr b1 0), (90, .slice (some ⟨b17, 0, none⟩) 2 2), (91, .int .i64 2), (92, .int .i64 1), (9, .slice ax3 nx3 cx3), (96, .slice ax3 nx3 cx3), (97, .int .i64 ((xg.length : Nat) : Int)), (7, .bool ξ.2), (98, .int .i64 ((ξ.1 : Nat) : Int))]) (fun ξ => [Hp.own FV 1 (.slice (some ⟨b17, 0, none⟩) 2 2) ([(⟨ax2, nx2, cx2, xa⟩ : Vd), (⟨ax3, nx3, cx3, xg⟩ : Vd)]), Hp.rec_ b1 [.slice ax1 nx1 cx1, .int .i64 s.n, .int .i64 s.who, .int .i64 s.val, .slice ax2 nx2 cx2, .slice ax3 nx3 cx3]]) (fun ξ => xg.length - ξ.1) (0, f2) ⟨by first | omega | (dsimp only; omega), hf2.trans ⟨fun h => ⟨h, rises_nil⟩, fun h => h.1⟩, rfl⟩ ((.cons rfl (.cons rfl (.cons rfl (.cons rfl (.cons rfl (.cons rfl (.cons rfl (.cons rfl (.cons rfl (.cons rfl .nil))))))))))) rfl ?_
    rintro ⟨k3, f3⟩ ⟨hk3, hf3, hb3⟩
    dsimp only at hk3 hf3 hb3
    refine Gx.know (m' := [(0, .int .i64 n), (3, ptr b1 0), (90, .slice (some ⟨b17, 0, none⟩) 2 2), (91, .int .i64 2), (92, .int .i64 1), (9, .slice ax3 nx3 cx3), (96, .slice ax3 nx3 cx3), (97, .int .i64 ((xg.length : Nat) : Int)), (7, .bool f3), (98, .int .i64 ((k3 : Nat) : Int))]) (.cons rfl (.cons rfl (.cons rfl (.cons rfl (.cons rfl (.cons rfl (.cons rfl (.cons rfl (.cons rfl (.cons rfl .nil)))))))))) (Gx.norm (l' := [Hp.own FV 1 (.slice (some ⟨b17, 0, none⟩) 2 2) ([(⟨ax2, nx2, cx2, xa⟩ : Vd), (⟨ax3, nx3, cx3, xg⟩ : Vd)]), Hp.rec_ b1 [.slice ax1 nx1 cx1, .int .i64 s.n, .int .i64 s.who, .int .i64 s.val, .slice ax2 nx2 cx2, .slice ax3 nx3 cx3]]) rfl ?_)
    refine Gx.seq ?_
    refine Gx.region ?_
    refine Gx.val rfl rfl rfl (val_lss rfl rfl rfl) ?_
    refine Gx.done ?_
    refine Gx.thenN ?_
    refine Gx.seq ?_
    refine Gx.dec rfl (fun h29 => ?_) (fun h29 => ?_)
    · refine Gx.skip ?_
      refine Gx.thenN ?_
      refine Gx.seq ?_
      refine Gx.block ?_
      refine Gx.seq ?_
      refine Gx.region ?_
      refine Gx.val rfl rfl rfl (val_move rfl rfl) ?_
      obtain ⟨x30, hx30⟩ := get_of_lt (xs := xg) (k := k3) (by omega)
      refine Gx.val rfl rfl rfl (val_ixa rfl Try.underlying25 Try.ty59 rfl rfl (j := k3) (rfl) (reach_base hxg hx30)) ?_
      refine Gx.val rfl rfl rfl (Val.cast (val_loadA rfl Try.ty59 rfl rfl rfl (cells_base hxg hx30)) (v' := .agg #[.int .i64 x30.item, .int .i64 x30.who, .int .i64 x30.n]) rfl) ?_
      refine Gx.eff rfl rfl rfl (eff_alloc rfl Try.ty59 (vs := [.int .i64 0, .int .i64 0, .int .i64 0]) rfl) ?_
      rintro _ _ ⟨b31, rfl, rfl⟩
      refine Gx.val rfl rfl rfl (val_assign rfl rfl) ?_
      refine Gx.eff0 rfl rfl (eff_store rfl Try.ty59 rfl rfl (us := [.int .i64 x30.item, .int .i64 x30.who, .int .i64 x30.n]) rfl rfl rfl (k := 0) rfl (rfl) (vs' := [.int .i64 x30.item, .int .i64 x30.who, .int .i64 x30.n]) (rfl) (l' := [Hp.rec_ b31 [.int .i64 x30.item, .int .i64 x30.who, .int .i64 x30.n], Hp.own FV 1 (.slice (some ⟨b17, 0, none⟩) 2 2) ([(⟨ax2, nx2, cx2, xa⟩ : Vd), (⟨ax3, nx3, cx3, xg⟩ : Vd)]), Hp.rec_ b1 [.slice ax1 nx1 cx1, .int .i64 s.n, .int .i64 s.who, .int .i64 s.val, .slice ax2 nx2 cx2, .slice ax3 nx3 cx3]]) rfl) ?_
      rintro _ _ rfl
      refine Gx.done ?_
      refine Gx.thenN ?_
      refine Gx.meet (ι := Unit) (fun ξ => (badD n x30 = false)) (fun ξ => [(0, .int .i64 n), (3, ptr b1 0), (90, .slice (some ⟨b17, 0, none⟩) 2 2), (91, .int .i64 2), (92, .int .i64 1), (9, .slice ax3 nx3 cx3), (96, .slice ax3 nx3 cx3), (97, .int .i64 ((xg.length : Nat) : Int)), (7, .bool f3), (98, .int .i64 ((k3 : Nat) : Int)), (11, ptr b31 0), (10, .int .i64 ((k3 : Nat) : Int))]) (fun ξ => [Hp.rec_ b31 [.int .i64 x30.item, .int .i64 x30.who, .int .i64 x30.n], Hp.own FV 1 (.slice (some ⟨b17, 0, none⟩) 2 2) ([(⟨ax2, nx2, cx2, xa⟩ : Vd), (⟨ax3, nx3, cx3, xg⟩ : Vd)]), Hp.rec_ b1 [.slice ax1 nx1 cx1, .int .i64 s.n, .int .i64 s.who, .int .i64 s.val, .slice ax2 nx2 cx2, .slice ax3 nx3 cx3]]) ?_ ?_
      · refine Gx.seq ?_
        refine Gx.region ?_
        refine Gx.val rfl rfl rfl (Val.cast (val_fieldAddr rfl Try.underlying59 rfl Try.ty3 rfl rfl) (v' := ptr b31 0) rfl) ?_
        refine Gx.val rfl rfl rfl (val_load rfl Try.ty3 rfl rfl (cell_rec (k := 0) rfl rfl)) ?_
        refine Gx.val rfl rfl rfl (val_lss rfl rfl rfl) ?_
        refine Gx.val rfl rfl rfl (val_move rfl rfl) ?_
        refine Gx.cases (t := 106) rfl (fun h32 => ?_) (fun h32 => ?_)
        · refine Gx.skipg rfl rfl rfl rfl rfl rfl ?_
          refine Gx.skipg rfl rfl rfl rfl rfl rfl ?_
          refine Gx.skipg rfl rfl rfl rfl rfl rfl ?_
          refine Gx.val rfl rfl rfl (val_pickT rfl rfl rfl) ?_
          refine Gx.val rfl rfl rfl (val_move rfl rfl) ?_
          refine Gx.skipg rfl rfl rfl rfl rfl rfl ?_
          refine Gx.skipg rfl rfl rfl rfl rfl rfl ?_
          refine Gx.skipg rfl rfl rfl rfl rfl rfl ?_
          refine Gx.val rfl rfl rfl (val_pickT rfl rfl rfl) ?_
          refine Gx.val rfl rfl rfl (val_move rfl rfl) ?_
          refine Gx.skipg rfl rfl rfl rfl rfl rfl ?_
          refine Gx.skipg rfl rfl rfl rfl rfl rfl ?_
          refine Gx.skipg rfl rfl rfl rfl rfl rfl ?_
          refine Gx.skipg rfl rfl rfl rfl rfl rfl ?_
          refine Gx.val rfl rfl rfl (val_pickT rfl rfl rfl) ?_
          refine Gx.val rfl rfl rfl (val_move rfl rfl) ?_
          refine Gx.skipg rfl rfl rfl rfl rfl rfl ?_
          refine Gx.skipg rfl rfl rfl rfl rfl rfl ?_
          refine Gx.skipg rfl rfl rfl rfl rfl rfl ?_
          refine Gx.val rfl rfl rfl (val_pickT rfl rfl rfl) ?_
          refine Gx.done ?_
          refine Gx.thenN ?_
          refine Gx.t rfl ?_
          refine Gx.seq ?_
          refine Gx.region ?_
          refine Gx.val rfl rfl rfl (val_assign rfl rfl) ?_
          refine Gx.done ?_
          refine Gx.thenN ?_
          refine Gx.ret ?_
          refine Gx.thenR ?_
          refine Gx.blkR ?_
          refine Gx.thenR ?_
          refine Gx.thenR ?_
          refine Gx.blkR ?_
          refine Gx.blkR ?_
          refine Gx.thenR ?_
          refine Gx.thenR ?_
          refine Gx.blkR ?_
          refine Gx.thenR ?_
          refine Gx.ret1 Try.results20 rfl ?_
          exact ⟨2, rfl, fun h => (by cases h), fun h => absurd h (bad_g hx30 (by unfold badD; exact decide_eq_true (by omega)))⟩
        refine Gx.valg rfl rfl rfl rfl rfl (Val.cast (val_fieldAddr rfl Try.underlying59 rfl Try.ty3 rfl rfl) (v' := ptr b31 0) rfl) ?_
        refine Gx.valg rfl rfl rfl rfl rfl (val_load rfl Try.ty3 rfl rfl (cell_rec (k := 0) rfl rfl)) ?_
        refine Gx.valg rfl rfl rfl rfl rfl (val_geq rfl rfl rfl) ?_
        refine Gx.val rfl rfl rfl (val_pickF rfl rfl rfl) ?_
        refine Gx.val rfl rfl rfl (val_move rfl rfl) ?_
        refine Gx.cases (t := 111) rfl (fun h33 => ?_) (fun h33 => ?_)
        · refine Gx.skipg rfl rfl rfl rfl rfl rfl ?_
          refine Gx.skipg rfl rfl rfl rfl rfl rfl ?_
          refine Gx.skipg rfl rfl rfl rfl rfl rfl ?_
          refine Gx.val rfl rfl rfl (val_pickT rfl rfl rfl) ?_
          refine Gx.val rfl rfl rfl (val_move rfl rfl) ?_
          refine Gx.skipg rfl rfl rfl rfl rfl rfl ?_
          refine Gx.skipg rfl rfl rfl rfl rfl rfl ?_
          refine Gx.skipg rfl rfl rfl rfl rfl rfl ?_
          refine Gx.skipg rfl rfl rfl rfl rfl rfl ?_
          refine Gx.val rfl rfl rfl (val_pickT rfl rfl rfl) ?_
          refine Gx.val rfl rfl rfl (val_move rfl rfl) ?_
          refine Gx.skipg rfl rfl rfl rfl rfl rfl ?_
          refine Gx.skipg rfl rfl rfl rfl rfl rfl ?_
          refine Gx.skipg rfl rfl rfl rfl rfl rfl ?_
          refine Gx.val rfl rfl rfl (val_pickT rfl rfl rfl) ?_
          refine Gx.done ?_
          refine Gx.thenN ?_
          refine Gx.t rfl ?_
          refine Gx.seq ?_
          refine Gx.region ?_
          refine Gx.val rfl rfl rfl (val_assign rfl rfl) ?_
          refine Gx.done ?_
          refine Gx.thenN ?_
          refine Gx.ret ?_
          refine Gx.thenR ?_
          refine Gx.blkR ?_
          refine Gx.thenR ?_
          refine Gx.thenR ?_
          refine Gx.blkR ?_
          refine Gx.blkR ?_
          refine Gx.thenR ?_
          refine Gx.thenR ?_
          refine Gx.blkR ?_
          refine Gx.thenR ?_
          refine Gx.ret1 Try.results20 rfl ?_
          exact ⟨2, rfl, fun h => (by cases h), fun h => absurd h (bad_g hx30 (by unfold badD; exact decide_eq_true (by omega)))⟩
        refine Gx.valg rfl rfl rfl rfl rfl (Val.cast (val_fieldAddr rfl Try.underlying59 rfl Try.ty3 rfl rfl) (v' := ptr b31 1) rfl) ?_
        refine Gx.valg rfl rfl rfl rfl rfl (val_load rfl Try.ty3 rfl rfl (cell_rec (k := 0) rfl rfl)) ?_
        refine Gx.valg rfl rfl rfl rfl rfl (val_lss rfl rfl rfl) ?_
        refine Gx.val rfl rfl rfl (val_pickF rfl rfl rfl) ?_
        refine Gx.val rfl rfl rfl (val_move rfl rfl) ?_
        refine Gx.cases (t := 116) rfl (fun h34 => ?_) (fun h34 => ?_)
        · refine Gx.skipg rfl rfl rfl rfl rfl rfl ?_
          refine Gx.skipg rfl rfl rfl rfl rfl rfl ?_
          refine Gx.skipg rfl rfl rfl rfl rfl rfl ?_
          refine Gx.skipg rfl rfl rfl rfl rfl rfl ?_
          refine Gx.val rfl rfl rfl (val_pickT rfl rfl rfl) ?_
          refine Gx.val rfl rfl rfl (val_move rfl rfl) ?_
          refine Gx.skipg rfl rfl rfl rfl rfl rfl ?_
          refine Gx.skipg rfl rfl rfl rfl rfl rfl ?_
          refine Gx.skipg rfl rfl rfl rfl rfl rfl ?_
          refine Gx.val rfl rfl rfl (val_pickT rfl rfl rfl) ?_
          refine Gx.done ?_
          refine Gx.thenN ?_
          refine Gx.t rfl ?_
          refine Gx.seq ?_
          refine Gx.region ?_
          refine Gx.val rfl rfl rfl (val_assign rfl rfl) ?_
          refine Gx.done ?_
          refine Gx.thenN ?_
          refine Gx.ret ?_
          refine Gx.thenR ?_
          refine Gx.blkR ?_
          refine Gx.thenR ?_
          refine Gx.thenR ?_
          refine Gx.blkR ?_
          refine Gx.blkR ?_
          refine Gx.thenR ?_
          refine Gx.thenR ?_
          refine Gx.blkR ?_
          refine Gx.thenR ?_
          refine Gx.ret1 Try.results20 rfl ?_
          exact ⟨2, rfl, fun h => (by cases h), fun h => absurd h (bad_g hx30 (by unfold badD; exact decide_eq_true (by omega)))⟩
        refine Gx.valg rfl rfl rfl rfl rfl (Val.cast (val_fieldAddr rfl Try.underlying59 rfl Try.ty3 rfl rfl) (v' := ptr b31 1) rfl) ?_
        refine Gx.valg rfl rfl rfl rfl rfl (val_load rfl Try.ty3 rfl rfl (cell_rec (k := 0) rfl rfl)) ?_
        refine Gx.valg rfl rfl rfl rfl rfl (val_move rfl rfl) ?_
        refine Gx.valg rfl rfl rfl rfl rfl (val_geq rfl rfl rfl) ?_
        refine Gx.val rfl rfl rfl (val_pickF rfl rfl rfl) ?_
        refine Gx.val rfl rfl rfl (val_move rfl rfl) ?_
        refine Gx.cases (t := 122) rfl (fun h35 => ?_) (fun h35 => ?_)
        · refine Gx.skipg rfl rfl rfl rfl rfl rfl ?_
          refine Gx.skipg rfl rfl rfl rfl rfl rfl ?_
          refine Gx.skipg rfl rfl rfl rfl rfl rfl ?_
          refine Gx.val rfl rfl rfl (val_pickT rfl rfl rfl) ?_
          refine Gx.done ?_
          refine Gx.thenN ?_
          refine Gx.t rfl ?_
          refine Gx.seq ?_
          refine Gx.region ?_
          refine Gx.val rfl rfl rfl (val_assign rfl rfl) ?_
          refine Gx.done ?_
          refine Gx.thenN ?_
          refine Gx.ret ?_
          refine Gx.thenR ?_
          refine Gx.blkR ?_
          refine Gx.thenR ?_
          refine Gx.thenR ?_
          refine Gx.blkR ?_
          refine Gx.blkR ?_
          refine Gx.thenR ?_
          refine Gx.thenR ?_
          refine Gx.blkR ?_
          refine Gx.thenR ?_
          refine Gx.ret1 Try.results20 rfl ?_
          exact ⟨2, rfl, fun h => (by cases h), fun h => absurd h (bad_g hx30 (by unfold badD; exact decide_eq_true (by omega)))⟩
        refine Gx.valg rfl rfl rfl rfl rfl (Val.cast (val_fieldAddr rfl Try.underlying59 rfl Try.ty3 rfl rfl) (v' := ptr b31 2) rfl) ?_
        refine Gx.valg rfl rfl rfl rfl rfl (val_load rfl Try.ty3 rfl rfl (cell_rec (k := 0) rfl rfl)) ?_
        refine Gx.valg rfl rfl rfl rfl rfl (val_lss rfl rfl rfl) ?_
        refine Gx.val rfl rfl rfl (val_pickF rfl rfl rfl) ?_
        refine Gx.done ?_
        refine Gx.thenN ?_
        refine Gx.dec rfl (fun h36 => ?_) (fun h36 => ?_)
        · refine Gx.seq ?_
          refine Gx.region ?_
          refine Gx.val rfl rfl rfl (val_assign rfl rfl) ?_
          refine Gx.done ?_
          refine Gx.thenN ?_
          refine Gx.ret ?_
          refine Gx.thenR ?_
          refine Gx.blkR ?_
          refine Gx.thenR ?_
          refine Gx.thenR ?_
          refine Gx.blkR ?_
          refine Gx.blkR ?_
          refine Gx.thenR ?_
          refine Gx.thenR ?_
          refine Gx.blkR ?_
          refine Gx.thenR ?_
          refine Gx.ret1 Try.results20 rfl ?_
          exact ⟨2, rfl, fun h => (by cases h), fun h => absurd h (bad_g hx30 (by unfold badD; exact decide_eq_true (by omega)))⟩
        refine Gx.skip ?_
        refine Gx.thenN ?_
        exact Gx.fam () (by unfold badD; exact decide_eq_false (by omega)) ((.cons rfl (.cons rfl (.cons rfl (.cons rfl (.cons rfl (.cons rfl (.cons rfl (.cons rfl (.cons rfl (.cons rfl (.cons rfl (.cons rfl .nil))))))))))))) rfl
      rintro _ hbd
      refine Gx.know (m' := [(0, .int .i64 n), (3, ptr b1 0), (90, .slice (some ⟨b17, 0, none⟩) 2 2), (91, .int .i64 2), (92, .int .i64 1), (9, .slice ax3 nx3 cx3), (96, .slice ax3 nx3 cx3), (97, .int .i64 ((xg.length : Nat) : Int)), (7, .bool f3), (98, .int .i64 ((k3 : Nat) : Int)), (11, ptr b31 0), (10, .int .i64 ((k3 : Nat) : Int))]) (.cons rfl (.cons rfl (.cons rfl (.cons rfl (.cons rfl (.cons rfl (.cons rfl (.cons rfl (.cons rfl (.cons rfl (.cons rfl (.cons rfl .nil)))))))))))) (Gx.norm (l' := [Hp.rec_ b31 [.int .i64 x30.item, .int .i64 x30.who, .int .i64 x30.n], Hp.own FV 1 (.slice (some ⟨b17, 0, none⟩) 2 2) ([(⟨ax2, nx2, cx2, xa⟩ : Vd), (⟨ax3, nx3, cx3, xg⟩ : Vd)]), Hp.rec_ b1 [.slice ax1 nx1 cx1, .int .i64 s.n, .int .i64 s.who, .int .i64 s.val, .slice ax2 nx2 cx2, .slice ax3 nx3 cx3]]) rfl ?_)
      refine Gx.regionQ Try.mixed (by kernel_rfl) ?_
      refine Gq.val rfl rfl rfl (val_move rfl rfl) ?_
      refine Gq.val rfl rfl rfl (val_move rfl rfl) ?_
      refine Gq.casesB (t := 128) rfl (fun h37 => ?_) (fun h37 => ?_)
      · refine Gq.skipg rfl rfl rfl rfl rfl rfl ?_
        refine Gq.skipg rfl rfl rfl rfl rfl rfl ?_
        refine Gq.skipg rfl rfl rfl rfl rfl rfl ?_
        refine Gq.skipu rfl rfl rfl rfl rfl ?_
        refine Gq.skipu rfl rfl rfl rfl rfl ?_
        refine Gq.skipu rfl rfl rfl rfl rfl ?_
        refine Gq.skipu rfl rfl rfl rfl rfl ?_
        refine Gq.skipu rfl rfl rfl rfl rfl ?_
        refine Gq.skipu rfl rfl rfl rfl rfl ?_
        refine Gq.skipu rfl rfl rfl rfl rfl ?_
        refine Gq.skipu rfl rfl rfl rfl rfl ?_
        refine Gq.skipg rfl rfl rfl rfl rfl rfl ?_
        refine Gq.val rfl rfl rfl (val_pickT rfl rfl rfl) ?_
        refine Gq.val rfl rfl rfl (val_assign rfl rfl) ?_
        refine Gq.done ?_
        refine Gx.blkN ?_
        refine Gx.thenN ?_
        refine Gx.region ?_
        refine Gx.val rfl rfl rfl (val_add rfl rfl rfl (r := ((k3 + 1 : Nat) : Int)) (w64 (by omega) (by omega))) ?_
        refine Gx.val rfl rfl rfl (val_move rfl rfl) ?_
        refine Gx.done ?_
        refine Gx.thenN ?_
        refine Gx.drop 0 rfl ?_
        exact Gx.round (k3 + 1, true) ⟨by first | omega | (dsimp only; omega), ⟨fun h => (by cases h), fun h => absurd (hf3.2 ⟨h.1, ((rises_snoc hx30).1 h.2).1⟩) (by rw [h37]; decide)⟩, any_snoc hx30 hb3 hbd⟩ (by first | omega | (dsimp only; omega)) ((.cons rfl (.cons rfl (.cons rfl (.cons rfl (.cons rfl (.cons rfl (.cons rfl (.cons rfl (.cons rfl (.cons rfl .nil))))))))))) rfl
      refine Gq.valg rfl rfl rfl rfl rfl (val_move rfl rfl) ?_
      refine Gq.valg rfl rfl rfl rfl rfl (val_gtr rfl rfl rfl) ?_
      refine Gq.valg rfl rfl rfl rfl rfl (val_move rfl rfl) ?_
      refine Gq.cases (t := 131) rfl (fun h38 => ?_) (fun h38 => ?_)
      · refine Gq.valg rfl rfl rfl rfl rfl (val_move rfl rfl) ?_
        refine Gq.valg rfl rfl rfl rfl rfl (val_move rfl rfl) ?_
        refine Gq.valg rfl rfl rfl rfl rfl (val_sub rfl rfl rfl (r := ((k3 - 1 : Nat) : Int)) (w64 (by omega) (by omega))) ?_
        obtain ⟨x39, hx39⟩ := get_of_lt (xs := xg) (k := k3 - 1) (by omega)
        refine Gq.valg rfl rfl rfl rfl rfl (val_ixa rfl Try.underlying25 Try.ty59 rfl rfl (j := k3 - 1) (rfl) (reach_base hxg hx39)) ?_
        refine Gq.valg rfl rfl rfl rfl rfl (Val.cast (val_loadA rfl Try.ty59 rfl rfl rfl (cells_base (sz := 3) (j := k3 - 1) hxg hx39)) (v' := .agg #[.int .i64 x39.item, .int .i64 x39.who, .int .i64 x39.n]) rfl) ?_
        refine Gq.valg rfl rfl rfl rfl rfl (Val.cast (val_loadA rfl Try.ty59 rfl rfl rfl (cells_rec (k := 0) rfl)) (v' := .agg #[.int .i64 x30.item, .int .i64 x30.who, .int .i64 x30.n]) rfl) ?_
        refine Gq.valg rfl rfl rfl rfl rfl (val_call (vs := [.agg #[.int .i64 x39.item, .int .i64 x39.who, .int .i64 x39.n], .agg #[.int .i64 x30.item, .int .i64 x30.who, .int .i64 x30.n]]) rfl Try.fn34 rfl (fun w H => dotless_any x39 x30)) ?_
        refine Gq.valg rfl rfl rfl rfl rfl (val_notD rfl rfl) ?_
        refine Gq.valg rfl rfl rfl rfl rfl (val_pickT rfl rfl rfl) ?_
        refine Gq.val rfl rfl rfl (val_pickF rfl rfl rfl) ?_
        refine Gq.val rfl rfl rfl (val_assign rfl rfl) ?_
        refine Gq.done ?_
        refine Gx.blkN ?_
        refine Gx.thenN ?_
        refine Gx.region ?_
        refine Gx.val rfl rfl rfl (val_add rfl rfl rfl (r := ((k3 + 1 : Nat) : Int)) (w64 (by omega) (by omega))) ?_
        refine Gx.val rfl rfl rfl (val_move rfl rfl) ?_
        refine Gx.done ?_
        refine Gx.thenN ?_
        refine Gx.drop 0 rfl ?_
        exact Gx.round (k3 + 1, decide (¬(dotC x39 x30 < 0))) ⟨by first | omega | (dsimp only; omega), by
          rw [rises_snoc hx30, decide_eq_false_iff_not, Classical.not_not]
          exact ⟨fun h => ⟨(hf3.1 h37).1, (hf3.1 h37).2, fun z _ hz => by rw [hx39] at hz; cases hz; exact h⟩, fun h => h.2.2 _ (by omega) hx39⟩, any_snoc hx30 hb3 hbd⟩ (by first | omega | (dsimp only; omega)) ((.cons rfl (.cons rfl (.cons rfl (.cons rfl (.cons rfl (.cons rfl (.cons rfl (.cons rfl (.cons rfl (.cons rfl .nil))))))))))) rfl
      refine Gq.skipg rfl rfl rfl rfl rfl rfl ?_
      refine Gq.skipg rfl rfl rfl rfl rfl rfl ?_
      refine Gq.skipg rfl rfl rfl rfl rfl rfl ?_
      refine Gq.skipg rfl rfl rfl rfl rfl rfl ?_
      refine Gq.skipg rfl rfl rfl rfl rfl rfl ?_
      refine Gq.skipg rfl rfl rfl rfl rfl rfl ?_
      refine Gq.skipg rfl rfl rfl rfl rfl rfl ?_
      refine Gq.skipg rfl rfl rfl rfl rfl rfl ?_
      refine Gq.valg rfl rfl rfl rfl rfl (val_pickF rfl rfl rfl) ?_
      refine Gq.val rfl rfl rfl (val_pickF rfl rfl rfl) ?_
      refine Gq.val rfl rfl rfl (val_assign rfl rfl) ?_
      refine Gq.done ?_
      refine Gx.blkN ?_
      refine Gx.thenN ?_
      refine Gx.region ?_
      refine Gx.val rfl rfl rfl (val_add rfl rfl rfl (r := ((k3 + 1 : Nat) : Int)) (w64 (by omega) (by omega))) ?_
      refine Gx.val rfl rfl rfl (val_move rfl rfl) ?_
      refine Gx.done ?_
      refine Gx.thenN ?_
      refine Gx.drop 0 rfl ?_
      exact Gx.round (k3 + 1, false) ⟨by first | omega | (dsimp only; omega), ⟨fun _ => ⟨(hf3.1 h37).1, (rises_snoc hx30).2 ⟨(hf3.1 h37).2, fun x h => absurd h (by omega)⟩⟩, fun _ => rfl⟩, any_snoc hx30 hb3 hbd⟩ (by first | omega | (dsimp only; omega)) ((.cons rfl (.cons rfl (.cons rfl (.cons rfl (.cons rfl (.cons rfl (.cons rfl (.cons rfl (.cons rfl (.cons rfl .nil))))))))))) rfl
    refine Gx.exit ?_
    refine Gx.thenE ?_
    refine Gx.thenE ?_
    refine Gx.blkE ?_
    refine Gx.blkN ?_
    refine Gx.thenN ?_
    refine Gx.region ?_
    refine Gx.val rfl rfl rfl (val_add rfl rfl rfl (r := 2) (w64 (by omega) (by omega))) ?_
    refine Gx.val rfl rfl rfl (val_move rfl rfl) ?_
    refine Gx.done ?_
    refine Gx.thenN ?_
    exact Gx.round (2, f3) ⟨by first | omega | (dsimp only; omega), by rw [List.take_of_length_le (by omega)] at hf3; exact hf3, by rw [List.take_of_length_le (by omega)] at hb3; exact ⟨hb2, hb3⟩⟩ (by first | omega | (dsimp only; omega)) ((.cons rfl (.cons rfl (.cons rfl (.cons rfl (.cons rfl (.cons rfl .nil))))))) rfl
  · refine Gx.know (m' := [(0, .int .i64 n), (3, ptr b1 0), (90, .slice (some ⟨b17, 0, none⟩) 2 2), (91, .int .i64 2), (7, .bool f2), (92, .int .i64 2)]) (.cons rfl (.cons rfl (.cons rfl (.cons rfl (.cons rfl (.cons rfl .nil)))))) (Gx.norm (l' := [Hp.own FV 1 (.slice (some ⟨b17, 0, none⟩) 2 2) ([(⟨ax2, nx2, cx2, xa⟩ : Vd), (⟨ax3, nx3, cx3, xg⟩ : Vd)]), Hp.rec_ b1 [.slice ax1 nx1 cx1, .int .i64 s.n, .int .i64 s.who, .int .i64 s.val, .slice ax2 nx2 cx2, .slice ax3 nx3 cx3]]) rfl ?_)
    refine Gx.seq ?_
    refine Gx.region ?_
    refine Gx.val rfl rfl rfl (Val.cast (val_lss rfl rfl rfl) (v' := .bool false) rfl) ?_
    refine Gx.done ?_
    refine Gx.thenN ?_
    refine Gx.seq ?_
    refine Gx.f rfl ?_
    refine Gx.exit ?_
    refine Gx.thenE ?_
    refine Gx.thenE ?_
    refine Gx.blkE ?_
    refine Gx.thenN ?_
    refine Gx.seq ?_
    refine Gx.seq ?_
    refine Gx.region ?_
    refine Gx.val rfl rfl rfl (val_move rfl rfl) ?_
    refine Gx.done ?_
    refine Gx.thenN ?_
    refine Gx.bool rfl (fun h40 => ?_) (fun h40 => ?_)
    · refine Gx.seq ?_
      refine Gx.region ?_
      refine Gx.val rfl rfl rfl (val_assign rfl rfl) ?_
      refine Gx.done ?_
      refine Gx.thenN ?_
      refine Gx.ret ?_
      refine Gx.thenR ?_
      refine Gx.ret1 Try.results20 rfl ?_
      exact ⟨3, rfl, fun h => (by cases h), fun h => absurd (hf2.2 ⟨h.2.2.1, h.2.2.2⟩) (by rw [h40]; decide)⟩
    refine Gx.skip ?_
    refine Gx.thenN ?_
    refine Gx.seq ?_
    refine Gx.region ?_
    refine Gx.val rfl rfl rfl (val_assign rfl rfl) ?_
    refine Gx.done ?_
    refine Gx.thenN ?_
    refine Gx.ret ?_
    refine Gx.ret1 Try.results20 rfl ?_
    exact ⟨0, rfl, fun _ => good_mk hbig hbase hv hb2.1 hb2.2 (hf2.1 h40).1 (hf2.1 h40).2, fun _ => rfl⟩

theorem good_any {W : World} {n : Int} {ax1 ax2 ax3 : Option Addr} {nx1 nx2 nx3 cx1 cx2 cx3 : Nat} {s : Sp} {xc : List Int} {xa xg : List Dt} (hxc : SlS FI 1 W (.slice ax1 nx1 cx1) xc) (hxa : SlS FD 3 W (.slice ax2 nx2 cx2) xa) (hxg : SlS FD 3 W (.slice ax3 nx3 cx3) xg) :
    Calls Try.prog 10 #[.int .i64 n, .agg #[.slice ax1 nx1 cx1, .int .i64 s.n, .int .i64 s.who, .int .i64 s.val, .slice ax2 nx2 cx2, .slice ax3 nx3 cx3]] W fun e w' => ∃ u, e = .returned u ∧ (∃ b : Bool, u = .bool b ∧ (b = true ↔ GoodC n ⟨xc, s, xa, xg⟩)) ∧ Below W.heap.size W w' := by
  refine calls_rel (R := fun v => ∃ b : Bool, v = .bool b ∧ (b = true ↔ GoodC n ⟨xc, s, xa, xg⟩)) (Gx.enter (l := []) Try.func10 rfl Try.ntmps10 rfl (Sat.start W) ?_)
  refine Gx.know (m' := [(0, .int .i64 n), (1, .agg #[.slice ax1 nx1 cx1, .int .i64 s.n, .int .i64 s.who, .int .i64 s.val, .slice ax2 nx2 cx2, .slice ax3 nx3 cx3])]) (.cons rfl (.cons rfl .nil)) ?_
  refine Gx.seq ?_
  refine Gx.region ?_
  refine Gx.eff rfl rfl rfl (eff_box rfl rfl (vs := [.slice ax1 nx1 cx1, .int .i64 s.n, .int .i64 s.who, .int .i64 s.val, .slice ax2 nx2 cx2, .slice ax3 nx3 cx3]) rfl) ?_
  rintro _ _ ⟨b1, rfl, rfl⟩
  refine Gx.val rfl rfl rfl (val_assign rfl rfl) ?_
  refine Gx.done ?_
  refine Gx.thenN ?_
  refine Gx.seq ?_
  refine Gx.region ?_
  refine Gx.val rfl rfl rfl (val_move rfl rfl) ?_
  refine Gx.val rfl rfl rfl (Val.cast (val_loadA rfl Try.ty27 rfl rfl rfl (cells_rec (k := 0) rfl)) (v' := .agg #[.slice ax1 nx1 cx1, .int .i64 s.n, .int .i64 s.who, .int .i64 s.val, .slice ax2 nx2 cx2, .slice ax3 nx3 cx3]) rfl) ?_
  refine Gx.eff rfl rfl rfl (eff_callE (vs := [.int .i64 n, .agg #[.slice ax1 nx1 cx1, .int .i64 s.n, .int .i64 s.who, .int .i64 s.val, .slice ax2 nx2 cx2, .slice ax3 nx3 cx3]]) rfl Try.fn20 rfl (R := (fun v => ∃ code : Int, v = .int .i64 code ∧ (code = 0 ↔ GoodC n ⟨xc, s, xa, xg⟩))) (fun w H => ccheck_any (s := s) (hxc.below H.below) (hxa.below H.below) (hxg.below H.below))) ?_
  rintro _ _ ⟨⟨code, rfl, hcode⟩, rfl⟩
  refine Gx.val rfl rfl rfl (val_eql rfl rfl rfl) ?_
  refine Gx.val rfl rfl rfl (val_assign rfl rfl) ?_
  refine Gx.done ?_
  refine Gx.thenN ?_
  refine Gx.ret ?_
  refine Gx.ret1 Try.results10 rfl ?_
  exact ⟨_, rfl, by rw [decide_eq_true_eq]; exact hcode⟩

end Go.Proofs.Ytfpkfbffpkjgbaa
