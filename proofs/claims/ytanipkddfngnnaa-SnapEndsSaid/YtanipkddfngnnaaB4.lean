/- In some turns all is noted. The walk. No condition. -/
import Derived.Test.YtanipkddfngnnaaB3
import Derived.Test.YtanipkddfngnnaaM5
namespace Go.Proofs.Ytanipkddfngnnaa
open Go.RowKit
set_option linter.unusedVariables false
set_option linter.unusedSimpArgs false
set_option maxRecDepth 100000

abbrev tk (i j : Nat) : Mv := ⟨2, (i : Int), (j : Int), 0⟩
theorem Turn.pushed {money : List Int} {zs : List Mv} {t i j : Nat} (h6 : money.length ≤ 6) (hm0 : ∀ x ∈ money, 0 ≤ x) (hi : i < money.length) (hj : j < money.length) (hne : i ≠ j) (h : Turn money.length t i j (stS (ss0 money) zs)) : Turn money.length t i (j + 1) (stS (ss0 money) (zs ++ [tk i j])) := by
  have inv := (InvS.zero (money := money)).run h6 zs (BdS.zero hm0)
  have bd := (BdS.zero hm0).run h6 zs
  have h9 := h.take inv bd h6 hi hj (Ne.symm hne)
  rw [stS_app]
  show Turn money.length t i (j + 1) (stepS (stS (ss0 money) zs) (tk i j)).2
  unfold stepS
  rw [if_neg (show ¬ ((2 : Int) < 1 ∨ (3 : Int) < 2) by decide), if_neg (by rw [show isN (stS (ss0 money) zs).ps.length (tk i j).who = true from decide_eq_true (by rw [bd.len]; show (0 : Int) ≤ i ∧ (i : Int) < _; omega)]; decide), if_neg (show ¬ ((2 : Int) = 3) by decide),
    if_neg (by rw [show isN (stS (ss0 money) zs).ps.length (tk i j).oth = true from decide_eq_true (by rw [bd.len]; show (0 : Int) ≤ j ∧ (j : Int) < _; omega)]; intro q; rcases q with q | q; (cases q); (have q : (j : Int) = (i : Int) := q; omega)), if_pos rfl]
  exact h9
theorem ends_no1 {W : World} {mv sv : Value} {money : List Int} {cs : List Mv} (hm : SlS FI 1 W mv money) (hs : SlS FM 4 W sv cs) (hbad : money.length = 0 ∨ 6 < money.length ∨ 120 < cs.length) :
    Calls Try.prog 4 #[mv, sv] W fun e w' => e = .returned (.bool true) ∧ Below W.heap.size W w' := by
  refine calls_pure (Gx.enter (l := []) Try.func4 rfl Try.ntmps4 rfl (Sat.start W) ?_)
  refine Gx.know (m' := [(0, mv), (1, sv)]) (.cons rfl (.cons rfl .nil)) ?_
  refine Gx.seq ?_
  refine Gx.region ?_
  refine Gx.val rfl rfl rfl (val_assign rfl rfl) ?_
  refine Gx.done ?_
  refine Gx.thenN ?_
  refine Gx.seq ?_
  refine Gx.region ?_
  refine Gx.val rfl rfl rfl (val_move rfl rfl) ?_
  refine Gx.val rfl rfl rfl (val_len rfl Try.underlying22 rfl (len_base hm)) ?_
  refine Gx.val rfl rfl rfl (val_assign rfl rfl) ?_
  refine Gx.done ?_
  refine Gx.thenN ?_
  refine Gx.seq ?_
  refine Gx.region ?_
  refine Gx.val rfl rfl rfl (val_move rfl rfl) ?_
  refine Gx.val rfl rfl rfl (val_move rfl rfl) ?_
  refine Gx.val rfl rfl rfl (val_call (vs := [mv, sv]) rfl Try.fn7 rfl (fun w H => play_no1 (hm.below H.below) (hs.below H.below) hbad)) ?_
  refine Gx.val rfl rfl rfl (val_move rfl rfl) ?_
  refine Gx.val rfl rfl rfl (val_extract rfl rfl rfl) ?_
  refine Gx.val rfl rfl rfl (val_extract rfl rfl rfl) ?_
  refine Gx.eff rfl rfl rfl (eff_alloc rfl Try.ty27 (vs := [.slice none 0 0, .slice none 0 0, .slice none 0 0, .slice none 0 0, .bool false]) rfl) ?_
  rintro _ _ ⟨b1, rfl, rfl⟩
  refine Gx.eff0 rfl rfl (eff_store rfl Try.ty27 rfl rfl (us := [.slice none 0 0, .slice none 0 0, .slice none 0 0, .slice none 0 0, .bool false]) rfl rfl rfl (k := 0) rfl (rfl) (vs' := [.slice none 0 0, .slice none 0 0, .slice none 0 0, .slice none 0 0, .bool false]) (rfl) (l' := [Hp.rec_ b1 [.slice none 0 0, .slice none 0 0, .slice none 0 0, .slice none 0 0, .bool false]]) rfl) ?_
  rintro _ _ rfl
  refine Gx.val rfl rfl rfl (val_assign rfl rfl) ?_
  refine Gx.done ?_
  refine Gx.thenN ?_
  refine Gx.seq ?_
  refine Gx.seq ?_
  refine Gx.region ?_
  refine Gx.val rfl rfl rfl (val_move rfl rfl) ?_
  refine Gx.val rfl rfl rfl (Val.cast (val_neq rfl rfl rfl) (v' := .bool true) rfl) ?_
  refine Gx.val rfl rfl rfl (val_move rfl rfl) ?_
  refine Gx.skipg rfl rfl rfl rfl rfl rfl ?_
  refine Gx.skipg rfl rfl rfl rfl rfl rfl ?_
  refine Gx.val rfl rfl rfl (val_pickT rfl rfl rfl) ?_
  refine Gx.val rfl rfl rfl (val_move rfl rfl) ?_
  refine Gx.skipg rfl rfl rfl rfl rfl rfl ?_
  refine Gx.skipg rfl rfl rfl rfl rfl rfl ?_
  refine Gx.val rfl rfl rfl (val_pickT rfl rfl rfl) ?_
  refine Gx.val rfl rfl rfl (val_move rfl rfl) ?_
  refine Gx.skipg rfl rfl rfl rfl rfl rfl ?_
  refine Gx.skipg rfl rfl rfl rfl rfl rfl ?_
  refine Gx.skipg rfl rfl rfl rfl rfl rfl ?_
  refine Gx.val rfl rfl rfl (val_pickT rfl rfl rfl) ?_
  refine Gx.done ?_
  refine Gx.thenN ?_
  refine Gx.t rfl ?_
  refine Gx.seq ?_
  refine Gx.region ?_
  refine Gx.val rfl rfl rfl (val_move rfl rfl) ?_
  refine Gx.val rfl rfl rfl (Val.cast (val_neq rfl rfl rfl) (v' := .bool true) rfl) ?_
  refine Gx.val rfl rfl rfl (val_move rfl rfl) ?_
  refine Gx.skipg rfl rfl rfl rfl rfl rfl ?_
  refine Gx.skipg rfl rfl rfl rfl rfl rfl ?_
  refine Gx.val rfl rfl rfl (val_pickT rfl rfl rfl) ?_
  refine Gx.val rfl rfl rfl (val_move rfl rfl) ?_
  refine Gx.skipg rfl rfl rfl rfl rfl rfl ?_
  refine Gx.skipg rfl rfl rfl rfl rfl rfl ?_
  refine Gx.val rfl rfl rfl (val_pickT rfl rfl rfl) ?_
  refine Gx.val rfl rfl rfl (val_move rfl rfl) ?_
  refine Gx.skipg rfl rfl rfl rfl rfl rfl ?_
  refine Gx.skipg rfl rfl rfl rfl rfl rfl ?_
  refine Gx.skipg rfl rfl rfl rfl rfl rfl ?_
  refine Gx.val rfl rfl rfl (val_pickT rfl rfl rfl) ?_
  refine Gx.val rfl rfl rfl (val_move rfl rfl) ?_
  refine Gx.skipg rfl rfl rfl rfl rfl rfl ?_
  refine Gx.skipg rfl rfl rfl rfl rfl rfl ?_
  refine Gx.val rfl rfl rfl (val_pickT rfl rfl rfl) ?_
  refine Gx.val rfl rfl rfl (val_assign rfl rfl) ?_
  refine Gx.done ?_
  refine Gx.thenN ?_
  refine Gx.ret ?_
  refine Gx.thenR ?_
  refine Gx.ret1 Try.results4 rfl ?_
  rfl

theorem ends_no2 {W : World} {mv sv : Value} {money : List Int} {cs : List Mv} (hm : SlS FI 1 W mv money) (hs : SlS FM 4 W sv cs) (hok : ¬ (money.length = 0 ∨ 6 < money.length ∨ 120 < cs.length)) (hbad : 0 ≤ firstB money) :
    Calls Try.prog 4 #[mv, sv] W fun e w' => e = .returned (.bool true) ∧ Below W.heap.size W w' := by
  refine calls_pure (Gx.enter (l := []) Try.func4 rfl Try.ntmps4 rfl (Sat.start W) ?_)
  refine Gx.know (m' := [(0, mv), (1, sv)]) (.cons rfl (.cons rfl .nil)) ?_
  refine Gx.seq ?_
  refine Gx.region ?_
  refine Gx.val rfl rfl rfl (val_assign rfl rfl) ?_
  refine Gx.done ?_
  refine Gx.thenN ?_
  refine Gx.seq ?_
  refine Gx.region ?_
  refine Gx.val rfl rfl rfl (val_move rfl rfl) ?_
  refine Gx.val rfl rfl rfl (val_len rfl Try.underlying22 rfl (len_base hm)) ?_
  refine Gx.val rfl rfl rfl (val_assign rfl rfl) ?_
  refine Gx.done ?_
  refine Gx.thenN ?_
  refine Gx.seq ?_
  refine Gx.region ?_
  refine Gx.val rfl rfl rfl (val_move rfl rfl) ?_
  refine Gx.val rfl rfl rfl (val_move rfl rfl) ?_
  refine Gx.val rfl rfl rfl (val_call (vs := [mv, sv]) rfl Try.fn7 rfl (fun w H => play_no2 (hm.below H.below) (hs.below H.below) hok hbad)) ?_
  refine Gx.val rfl rfl rfl (val_move rfl rfl) ?_
  refine Gx.val rfl rfl rfl (val_extract rfl rfl rfl) ?_
  refine Gx.val rfl rfl rfl (val_extract rfl rfl rfl) ?_
  refine Gx.eff rfl rfl rfl (eff_alloc rfl Try.ty27 (vs := [.slice none 0 0, .slice none 0 0, .slice none 0 0, .slice none 0 0, .bool false]) rfl) ?_
  rintro _ _ ⟨b1, rfl, rfl⟩
  refine Gx.eff0 rfl rfl (eff_store rfl Try.ty27 rfl rfl (us := [.slice none 0 0, .slice none 0 0, .slice none 0 0, .slice none 0 0, .bool false]) rfl rfl rfl (k := 0) rfl (rfl) (vs' := [.slice none 0 0, .slice none 0 0, .slice none 0 0, .slice none 0 0, .bool false]) (rfl) (l' := [Hp.rec_ b1 [.slice none 0 0, .slice none 0 0, .slice none 0 0, .slice none 0 0, .bool false]]) rfl) ?_
  rintro _ _ rfl
  refine Gx.val rfl rfl rfl (val_assign rfl rfl) ?_
  refine Gx.done ?_
  refine Gx.thenN ?_
  refine Gx.seq ?_
  refine Gx.seq ?_
  refine Gx.region ?_
  refine Gx.val rfl rfl rfl (val_move rfl rfl) ?_
  refine Gx.val rfl rfl rfl (Val.cast (val_neq rfl rfl rfl) (v' := .bool true) rfl) ?_
  refine Gx.val rfl rfl rfl (val_move rfl rfl) ?_
  refine Gx.skipg rfl rfl rfl rfl rfl rfl ?_
  refine Gx.skipg rfl rfl rfl rfl rfl rfl ?_
  refine Gx.val rfl rfl rfl (val_pickT rfl rfl rfl) ?_
  refine Gx.val rfl rfl rfl (val_move rfl rfl) ?_
  refine Gx.skipg rfl rfl rfl rfl rfl rfl ?_
  refine Gx.skipg rfl rfl rfl rfl rfl rfl ?_
  refine Gx.val rfl rfl rfl (val_pickT rfl rfl rfl) ?_
  refine Gx.val rfl rfl rfl (val_move rfl rfl) ?_
  refine Gx.skipg rfl rfl rfl rfl rfl rfl ?_
  refine Gx.skipg rfl rfl rfl rfl rfl rfl ?_
  refine Gx.skipg rfl rfl rfl rfl rfl rfl ?_
  refine Gx.val rfl rfl rfl (val_pickT rfl rfl rfl) ?_
  refine Gx.done ?_
  refine Gx.thenN ?_
  refine Gx.t rfl ?_
  refine Gx.seq ?_
  refine Gx.region ?_
  refine Gx.val rfl rfl rfl (val_move rfl rfl) ?_
  refine Gx.val rfl rfl rfl (Val.cast (val_neq rfl rfl rfl) (v' := .bool true) rfl) ?_
  refine Gx.val rfl rfl rfl (val_move rfl rfl) ?_
  refine Gx.skipg rfl rfl rfl rfl rfl rfl ?_
  refine Gx.skipg rfl rfl rfl rfl rfl rfl ?_
  refine Gx.val rfl rfl rfl (val_pickT rfl rfl rfl) ?_
  refine Gx.val rfl rfl rfl (val_move rfl rfl) ?_
  refine Gx.skipg rfl rfl rfl rfl rfl rfl ?_
  refine Gx.skipg rfl rfl rfl rfl rfl rfl ?_
  refine Gx.val rfl rfl rfl (val_pickT rfl rfl rfl) ?_
  refine Gx.val rfl rfl rfl (val_move rfl rfl) ?_
  refine Gx.skipg rfl rfl rfl rfl rfl rfl ?_
  refine Gx.skipg rfl rfl rfl rfl rfl rfl ?_
  refine Gx.skipg rfl rfl rfl rfl rfl rfl ?_
  refine Gx.val rfl rfl rfl (val_pickT rfl rfl rfl) ?_
  refine Gx.val rfl rfl rfl (val_move rfl rfl) ?_
  refine Gx.skipg rfl rfl rfl rfl rfl rfl ?_
  refine Gx.skipg rfl rfl rfl rfl rfl rfl ?_
  refine Gx.val rfl rfl rfl (val_pickT rfl rfl rfl) ?_
  refine Gx.val rfl rfl rfl (val_assign rfl rfl) ?_
  refine Gx.done ?_
  refine Gx.thenN ?_
  refine Gx.ret ?_
  refine Gx.thenR ?_
  refine Gx.ret1 Try.results4 rfl ?_
  rfl

theorem ends_out {W : World} {mv sv : Value} {money : List Int} {cs : List Mv} (hm : SlS FI 1 W mv money) (hs : SlS FM 4 W sv cs) (hq1 : 1 ≤ money.length) (h6 : money.length ≤ 6) (hcl : cs.length ≤ 120) (hbad : ¬ 0 ≤ firstB money) (hx : money.length < 2 ∨ 3 < money.length ∨ 12 < cs.length) :
    Calls Try.prog 4 #[mv, sv] W fun e w' => e = .returned (.bool true) ∧ Below W.heap.size W w' := by
  have hm0 : ∀ x ∈ money, 0 ≤ x := fun x hx => (firstB_ok hbad x hx).1
  refine calls_pure (Gx.enter (l := []) Try.func4 rfl Try.ntmps4 rfl (Sat.start W) ?_)
  refine Gx.know (m' := [(0, mv), (1, sv)]) (.cons rfl (.cons rfl .nil)) ?_
  refine Gx.seq ?_
  refine Gx.region ?_
  refine Gx.val rfl rfl rfl (val_assign rfl rfl) ?_
  refine Gx.done ?_
  refine Gx.thenN ?_
  refine Gx.seq ?_
  refine Gx.region ?_
  refine Gx.val rfl rfl rfl (val_move rfl rfl) ?_
  refine Gx.val rfl rfl rfl (val_len rfl Try.underlying22 rfl (len_base hm)) ?_
  refine Gx.val rfl rfl rfl (val_assign rfl rfl) ?_
  refine Gx.done ?_
  refine Gx.thenN ?_
  refine Gx.seq ?_
  refine Gx.region ?_
  refine Gx.val rfl rfl rfl (val_move rfl rfl) ?_
  refine Gx.val rfl rfl rfl (val_move rfl rfl) ?_
  refine Gx.callB rfl rfl rfl (vs := [mv, sv]) rfl Try.fn7 rfl (R := fun v w' => ∃ (cv wv uv bv : Value) (dm : Bool) (vals : List Sv), v = .tuple #[.agg #[cv, wv, uv, bv, .bool dm], .int .i64 0] ∧ SlS FZ 1 w' cv (codesS (ss0 money) cs) ∧ SlS FI 1 w' wv ((stS (ss0 money) cs).ps.map Pr.mo) ∧ SlS FI 1 w' uv ((stS (ss0 money) cs).ps.map Pr.ow) ∧ SlS FV 1 w' bv vals ∧ vals.length = money.length * money.length ∧ (∀ (kw : Nat) (v : Sv), vals[kw]? = some v → SlS FI 1 w' (.slice v.a v.n v.c) (nts (stS (ss0 money) cs) money.length kw)) ∧ (dm = true ↔ DoneS (stS (ss0 money) cs) money.length)) (fun w H => play_ok (hm.below H.below) (hs.below H.below) hq1 h6 (by omega) hbad) ?_
  rintro _ W7 ⟨cv1, wv2, uv3, bv4, dm5, vals6, rfl, hcv1, hwv2, huv3, hbv4, hlbv4, hrbv4, hddm5⟩ H8
  have hW9 := H8.below
  have hs10 := hm.below H8.below
  have hs11 := hs.below H8.below
  have hclcv1 : (codesS (ss0 money) cs).length = (cs).length := codesS_len ..
  have hplcv1 : (stS (ss0 money) cs).ps.length = money.length := ((BdS.zero hm0).run h6 cs).len
  have hmlcv1 : ((stS (ss0 money) cs).ps.map Pr.mo).length = money.length := by rw [List.length_map]; exact hplcv1
  have holcv1 : ((stS (ss0 money) cs).ps.map Pr.ow).length = money.length := by rw [List.length_map]; exact hplcv1
  obtain ⟨sa12, sn13, sc14, rfl⟩ := hcv1.isS
  obtain ⟨sa15, sn16, sc17, rfl⟩ := hwv2.isS
  obtain ⟨sa18, sn19, sc20, rfl⟩ := huv3.isS
  obtain ⟨sa21, sn22, sc23, rfl⟩ := hbv4.isS
  refine Gx.val rfl rfl rfl (val_move rfl rfl) ?_
  refine Gx.val rfl rfl rfl (val_extract rfl rfl rfl) ?_
  refine Gx.val rfl rfl rfl (val_extract rfl rfl rfl) ?_
  refine Gx.eff rfl rfl rfl (eff_alloc rfl Try.ty27 (vs := [.slice none 0 0, .slice none 0 0, .slice none 0 0, .slice none 0 0, .bool false]) rfl) ?_
  rintro _ _ ⟨b24, rfl, rfl⟩
  refine Gx.eff0 rfl rfl (eff_store rfl Try.ty27 rfl rfl (us := [.slice sa12 sn13 sc14, .slice sa15 sn16 sc17, .slice sa18 sn19 sc20, .slice sa21 sn22 sc23, .bool dm5]) rfl rfl rfl (k := 0) rfl (rfl) (vs' := [.slice sa12 sn13 sc14, .slice sa15 sn16 sc17, .slice sa18 sn19 sc20, .slice sa21 sn22 sc23, .bool dm5]) (rfl) (l' := [Hp.rec_ b24 [.slice sa12 sn13 sc14, .slice sa15 sn16 sc17, .slice sa18 sn19 sc20, .slice sa21 sn22 sc23, .bool dm5]]) rfl) ?_
  rintro _ _ rfl
  refine Gx.val rfl rfl rfl (val_assign rfl rfl) ?_
  refine Gx.done ?_
  refine Gx.thenN ?_
  refine Gx.seq ?_
  refine Gx.seq ?_
  refine Gx.region ?_
  refine Gx.val rfl rfl rfl (val_move rfl rfl) ?_
  refine Gx.val rfl rfl rfl (Val.cast (val_neq rfl rfl rfl) (v' := .bool false) rfl) ?_
  refine Gx.val rfl rfl rfl (val_move rfl rfl) ?_
  refine Gx.valg rfl rfl rfl rfl rfl (val_move rfl rfl) ?_
  refine Gx.valg rfl rfl rfl rfl rfl (val_lss rfl rfl rfl) ?_
  refine Gx.val rfl rfl rfl (val_pickF rfl rfl rfl) ?_
  refine Gx.val rfl rfl rfl (val_move rfl rfl) ?_
  refine Gx.cases (t := 30) rfl (fun h25 => ?_) (fun h25 => ?_)
  · refine Gx.skipg rfl rfl rfl rfl rfl rfl ?_
    refine Gx.skipg rfl rfl rfl rfl rfl rfl ?_
    refine Gx.val rfl rfl rfl (val_pickT rfl rfl rfl) ?_
    refine Gx.val rfl rfl rfl (val_move rfl rfl) ?_
    refine Gx.skipg rfl rfl rfl rfl rfl rfl ?_
    refine Gx.skipg rfl rfl rfl rfl rfl rfl ?_
    refine Gx.skipg rfl rfl rfl rfl rfl rfl ?_
    refine Gx.val rfl rfl rfl (val_pickT rfl rfl rfl) ?_
    refine Gx.done ?_
    refine Gx.thenN ?_
    refine Gx.t rfl ?_
    refine Gx.seq ?_
    refine Gx.region ?_
    refine Gx.val rfl rfl rfl (val_move rfl rfl) ?_
    refine Gx.val rfl rfl rfl (Val.cast (val_neq rfl rfl rfl) (v' := .bool false) rfl) ?_
    refine Gx.val rfl rfl rfl (val_move rfl rfl) ?_
    refine Gx.valg rfl rfl rfl rfl rfl (val_move rfl rfl) ?_
    refine Gx.valg rfl rfl rfl rfl rfl (val_lss rfl rfl rfl) ?_
    refine Gx.val rfl rfl rfl (val_pickF rfl rfl rfl) ?_
    refine Gx.val rfl rfl rfl (val_move rfl rfl) ?_
    refine Gx.cases (t := 45) rfl (fun h26 => ?_) (fun h26 => ?_)
    · refine Gx.skipg rfl rfl rfl rfl rfl rfl ?_
      refine Gx.skipg rfl rfl rfl rfl rfl rfl ?_
      refine Gx.val rfl rfl rfl (val_pickT rfl rfl rfl) ?_
      refine Gx.val rfl rfl rfl (val_move rfl rfl) ?_
      refine Gx.skipg rfl rfl rfl rfl rfl rfl ?_
      refine Gx.skipg rfl rfl rfl rfl rfl rfl ?_
      refine Gx.skipg rfl rfl rfl rfl rfl rfl ?_
      refine Gx.val rfl rfl rfl (val_pickT rfl rfl rfl) ?_
      refine Gx.val rfl rfl rfl (val_move rfl rfl) ?_
      refine Gx.skipg rfl rfl rfl rfl rfl rfl ?_
      refine Gx.skipg rfl rfl rfl rfl rfl rfl ?_
      refine Gx.val rfl rfl rfl (val_pickT rfl rfl rfl) ?_
      refine Gx.val rfl rfl rfl (val_assign rfl rfl) ?_
      refine Gx.done ?_
      refine Gx.thenN ?_
      refine Gx.ret ?_
      refine Gx.thenR ?_
      refine Gx.ret1B hW9 Try.results4 rfl ?_
      rfl
    · refine Gx.valg rfl rfl rfl rfl rfl (val_move rfl rfl) ?_
      refine Gx.valg rfl rfl rfl rfl rfl (val_gtr rfl rfl rfl) ?_
      refine Gx.val rfl rfl rfl (val_pickF rfl rfl rfl) ?_
      refine Gx.val rfl rfl rfl (val_move rfl rfl) ?_
      refine Gx.cases (t := 49) rfl (fun h27 => ?_) (fun h27 => ?_)
      · refine Gx.skipg rfl rfl rfl rfl rfl rfl ?_
        refine Gx.skipg rfl rfl rfl rfl rfl rfl ?_
        refine Gx.skipg rfl rfl rfl rfl rfl rfl ?_
        refine Gx.val rfl rfl rfl (val_pickT rfl rfl rfl) ?_
        refine Gx.val rfl rfl rfl (val_move rfl rfl) ?_
        refine Gx.skipg rfl rfl rfl rfl rfl rfl ?_
        refine Gx.skipg rfl rfl rfl rfl rfl rfl ?_
        refine Gx.val rfl rfl rfl (val_pickT rfl rfl rfl) ?_
        refine Gx.val rfl rfl rfl (val_assign rfl rfl) ?_
        refine Gx.done ?_
        refine Gx.thenN ?_
        refine Gx.ret ?_
        refine Gx.thenR ?_
        refine Gx.ret1B hW9 Try.results4 rfl ?_
        rfl
      · refine Gx.valg rfl rfl rfl rfl rfl (val_move rfl rfl) ?_
        refine Gx.valg rfl rfl rfl rfl rfl (val_len rfl Try.underlying23 rfl (len_base hs11)) ?_
        refine Gx.valg rfl rfl rfl rfl rfl (val_gtr rfl rfl rfl) ?_
        refine Gx.val rfl rfl rfl (val_pickF rfl rfl rfl) ?_
        refine Gx.val rfl rfl rfl (val_move rfl rfl) ?_
        refine Gx.cases (t := 54) rfl (fun h28 => ?_) (fun h28 => ?_)
        · refine Gx.skipg rfl rfl rfl rfl rfl rfl ?_
          refine Gx.skipg rfl rfl rfl rfl rfl rfl ?_
          refine Gx.val rfl rfl rfl (val_pickT rfl rfl rfl) ?_
          refine Gx.val rfl rfl rfl (val_assign rfl rfl) ?_
          refine Gx.done ?_
          refine Gx.thenN ?_
          refine Gx.ret ?_
          refine Gx.thenR ?_
          refine Gx.ret1B hW9 Try.results4 rfl ?_
          rfl
        · refine Gx.valg rfl rfl rfl rfl rfl (val_move rfl rfl) ?_
          refine Gx.valg rfl rfl rfl rfl rfl (val_eql rfl rfl rfl) ?_
          refine Gx.val rfl rfl rfl (val_pickF rfl rfl rfl) ?_
          refine Gx.val rfl rfl rfl (val_assign rfl rfl) ?_
          refine Gx.done ?_
          refine Gx.thenN ?_
          refine Gx.ret ?_
          refine Gx.thenR ?_
          refine Gx.ret1B hW9 Try.results4 rfl ?_
          exact congrArg Value.bool (decide_eq_true (by omega))
  · refine Gx.valg rfl rfl rfl rfl rfl (val_move rfl rfl) ?_
    refine Gx.valg rfl rfl rfl rfl rfl (val_gtr rfl rfl rfl) ?_
    refine Gx.val rfl rfl rfl (val_pickF rfl rfl rfl) ?_
    refine Gx.val rfl rfl rfl (val_move rfl rfl) ?_
    refine Gx.cases (t := 34) rfl (fun h29 => ?_) (fun h29 => ?_)
    · refine Gx.skipg rfl rfl rfl rfl rfl rfl ?_
      refine Gx.skipg rfl rfl rfl rfl rfl rfl ?_
      refine Gx.skipg rfl rfl rfl rfl rfl rfl ?_
      refine Gx.val rfl rfl rfl (val_pickT rfl rfl rfl) ?_
      refine Gx.done ?_
      refine Gx.thenN ?_
      refine Gx.t rfl ?_
      refine Gx.seq ?_
      refine Gx.region ?_
      refine Gx.val rfl rfl rfl (val_move rfl rfl) ?_
      refine Gx.val rfl rfl rfl (Val.cast (val_neq rfl rfl rfl) (v' := .bool false) rfl) ?_
      refine Gx.val rfl rfl rfl (val_move rfl rfl) ?_
      refine Gx.valg rfl rfl rfl rfl rfl (val_move rfl rfl) ?_
      refine Gx.valg rfl rfl rfl rfl rfl (val_lss rfl rfl rfl) ?_
      refine Gx.val rfl rfl rfl (val_pickF rfl rfl rfl) ?_
      refine Gx.val rfl rfl rfl (val_move rfl rfl) ?_
      refine Gx.cases (t := 45) rfl (fun h30 => ?_) (fun h30 => ?_)
      · refine Gx.skipg rfl rfl rfl rfl rfl rfl ?_
        refine Gx.skipg rfl rfl rfl rfl rfl rfl ?_
        refine Gx.val rfl rfl rfl (val_pickT rfl rfl rfl) ?_
        refine Gx.val rfl rfl rfl (val_move rfl rfl) ?_
        refine Gx.skipg rfl rfl rfl rfl rfl rfl ?_
        refine Gx.skipg rfl rfl rfl rfl rfl rfl ?_
        refine Gx.skipg rfl rfl rfl rfl rfl rfl ?_
        refine Gx.val rfl rfl rfl (val_pickT rfl rfl rfl) ?_
        refine Gx.val rfl rfl rfl (val_move rfl rfl) ?_
        refine Gx.skipg rfl rfl rfl rfl rfl rfl ?_
        refine Gx.skipg rfl rfl rfl rfl rfl rfl ?_
        refine Gx.val rfl rfl rfl (val_pickT rfl rfl rfl) ?_
        refine Gx.val rfl rfl rfl (val_assign rfl rfl) ?_
        refine Gx.done ?_
        refine Gx.thenN ?_
        refine Gx.ret ?_
        refine Gx.thenR ?_
        refine Gx.ret1B hW9 Try.results4 rfl ?_
        rfl
      · refine Gx.valg rfl rfl rfl rfl rfl (val_move rfl rfl) ?_
        refine Gx.valg rfl rfl rfl rfl rfl (val_gtr rfl rfl rfl) ?_
        refine Gx.val rfl rfl rfl (val_pickF rfl rfl rfl) ?_
        refine Gx.val rfl rfl rfl (val_move rfl rfl) ?_
        refine Gx.slot (t := 49) (v := .bool true) (look_decT rfl (h29)) ?_
        refine Gx.skipg rfl rfl rfl rfl rfl rfl ?_
        refine Gx.skipg rfl rfl rfl rfl rfl rfl ?_
        refine Gx.skipg rfl rfl rfl rfl rfl rfl ?_
        refine Gx.val rfl rfl rfl (val_pickT rfl rfl rfl) ?_
        refine Gx.val rfl rfl rfl (val_move rfl rfl) ?_
        refine Gx.skipg rfl rfl rfl rfl rfl rfl ?_
        refine Gx.skipg rfl rfl rfl rfl rfl rfl ?_
        refine Gx.val rfl rfl rfl (val_pickT rfl rfl rfl) ?_
        refine Gx.val rfl rfl rfl (val_assign rfl rfl) ?_
        refine Gx.done ?_
        refine Gx.thenN ?_
        refine Gx.ret ?_
        refine Gx.thenR ?_
        refine Gx.ret1B hW9 Try.results4 rfl ?_
        rfl
    · refine Gx.valg rfl rfl rfl rfl rfl (val_move rfl rfl) ?_
      refine Gx.valg rfl rfl rfl rfl rfl (val_len rfl Try.underlying23 rfl (len_base hs11)) ?_
      refine Gx.valg rfl rfl rfl rfl rfl (val_gtr rfl rfl rfl) ?_
      refine Gx.val rfl rfl rfl (val_pickF rfl rfl rfl) ?_
      refine Gx.done ?_
      refine Gx.thenN ?_
      refine Gx.dec rfl (fun h31 => ?_) (fun h31 => ?_)
      · refine Gx.seq ?_
        refine Gx.region ?_
        refine Gx.val rfl rfl rfl (val_move rfl rfl) ?_
        refine Gx.val rfl rfl rfl (Val.cast (val_neq rfl rfl rfl) (v' := .bool false) rfl) ?_
        refine Gx.val rfl rfl rfl (val_move rfl rfl) ?_
        refine Gx.valg rfl rfl rfl rfl rfl (val_move rfl rfl) ?_
        refine Gx.valg rfl rfl rfl rfl rfl (val_lss rfl rfl rfl) ?_
        refine Gx.val rfl rfl rfl (val_pickF rfl rfl rfl) ?_
        refine Gx.val rfl rfl rfl (val_move rfl rfl) ?_
        refine Gx.cases (t := 45) rfl (fun h32 => ?_) (fun h32 => ?_)
        · refine Gx.skipg rfl rfl rfl rfl rfl rfl ?_
          refine Gx.skipg rfl rfl rfl rfl rfl rfl ?_
          refine Gx.val rfl rfl rfl (val_pickT rfl rfl rfl) ?_
          refine Gx.val rfl rfl rfl (val_move rfl rfl) ?_
          refine Gx.skipg rfl rfl rfl rfl rfl rfl ?_
          refine Gx.skipg rfl rfl rfl rfl rfl rfl ?_
          refine Gx.skipg rfl rfl rfl rfl rfl rfl ?_
          refine Gx.val rfl rfl rfl (val_pickT rfl rfl rfl) ?_
          refine Gx.val rfl rfl rfl (val_move rfl rfl) ?_
          refine Gx.skipg rfl rfl rfl rfl rfl rfl ?_
          refine Gx.skipg rfl rfl rfl rfl rfl rfl ?_
          refine Gx.val rfl rfl rfl (val_pickT rfl rfl rfl) ?_
          refine Gx.val rfl rfl rfl (val_assign rfl rfl) ?_
          refine Gx.done ?_
          refine Gx.thenN ?_
          refine Gx.ret ?_
          refine Gx.thenR ?_
          refine Gx.ret1B hW9 Try.results4 rfl ?_
          rfl
        · refine Gx.valg rfl rfl rfl rfl rfl (val_move rfl rfl) ?_
          refine Gx.valg rfl rfl rfl rfl rfl (val_gtr rfl rfl rfl) ?_
          refine Gx.val rfl rfl rfl (val_pickF rfl rfl rfl) ?_
          refine Gx.val rfl rfl rfl (val_move rfl rfl) ?_
          refine Gx.slot (t := 49) (v := .bool false) (look_decF rfl (h29)) ?_
          refine Gx.valg rfl rfl rfl rfl rfl (val_move rfl rfl) ?_
          refine Gx.valg rfl rfl rfl rfl rfl (val_len rfl Try.underlying23 rfl (len_base hs11)) ?_
          refine Gx.valg rfl rfl rfl rfl rfl (val_gtr rfl rfl rfl) ?_
          refine Gx.val rfl rfl rfl (val_pickF rfl rfl rfl) ?_
          refine Gx.val rfl rfl rfl (val_move rfl rfl) ?_
          refine Gx.slot (t := 54) (v := .bool true) (look_decT rfl (h31)) ?_
          refine Gx.skipg rfl rfl rfl rfl rfl rfl ?_
          refine Gx.skipg rfl rfl rfl rfl rfl rfl ?_
          refine Gx.val rfl rfl rfl (val_pickT rfl rfl rfl) ?_
          refine Gx.val rfl rfl rfl (val_assign rfl rfl) ?_
          refine Gx.done ?_
          refine Gx.thenN ?_
          refine Gx.ret ?_
          refine Gx.thenR ?_
          refine Gx.ret1B hW9 Try.results4 rfl ?_
          rfl
      · refine Gx.skip ?_
        refine Gx.thenN ?_
        refine Gx.seq ?_
        exfalso; omega

theorem ends_yes {W : World} {mv sv : Value} {money : List Int} {cs : List Mv} (hm : SlS FI 1 W mv money) (hs : SlS FM 4 W sv cs) (hq1 : 1 ≤ money.length) (h6 : money.length ≤ 6) (hcl : cs.length ≤ 120) (hbad : ¬ 0 ≤ firstB money) (hx : ¬ (money.length < 2 ∨ 3 < money.length ∨ 12 < cs.length)) :
    Calls Try.prog 4 #[mv, sv] W fun e w' => e = .returned (.bool true) ∧ Below W.heap.size W w' := by
  have hm0 : ∀ x ∈ money, 0 ≤ x := fun x hx => (firstB_ok hbad x hx).1
  have hmb : ∀ x ∈ money, -1 ≤ x ∧ x ≤ 6000 := fun x hx => by have := firstB_ok hbad x hx; omega
  have hms := lsum_le (firstB_ok hbad)
  have hxb : ∀ xs : List Mv, ∀ x ∈ ((stS (ss0 money) xs).ps.map Pr.mo), -1 ≤ x ∧ x ≤ 6000 := fun xs x hx => by obtain ⟨p, hp, rfl⟩ := List.mem_map.1 hx; have b9 := (BdS.zero hm0).run h6 xs; have := b9.mo p hp; have := b9.mo_le hp; omega
  refine calls_pure (Gx.enter (l := []) Try.func4 rfl Try.ntmps4 rfl (Sat.start W) ?_)
  refine Gx.know (m' := [(0, mv), (1, sv)]) (.cons rfl (.cons rfl .nil)) ?_
  refine Gx.seq ?_
  refine Gx.region ?_
  refine Gx.val rfl rfl rfl (val_assign rfl rfl) ?_
  refine Gx.done ?_
  refine Gx.thenN ?_
  refine Gx.seq ?_
  refine Gx.region ?_
  refine Gx.val rfl rfl rfl (val_move rfl rfl) ?_
  refine Gx.val rfl rfl rfl (val_len rfl Try.underlying22 rfl (len_base hm)) ?_
  refine Gx.val rfl rfl rfl (val_assign rfl rfl) ?_
  refine Gx.done ?_
  refine Gx.thenN ?_
  refine Gx.seq ?_
  refine Gx.region ?_
  refine Gx.val rfl rfl rfl (val_move rfl rfl) ?_
  refine Gx.val rfl rfl rfl (val_move rfl rfl) ?_
  refine Gx.callB rfl rfl rfl (vs := [mv, sv]) rfl Try.fn7 rfl (R := fun v w' => ∃ (cv wv uv bv : Value) (dm : Bool) (vals : List Sv), v = .tuple #[.agg #[cv, wv, uv, bv, .bool dm], .int .i64 0] ∧ SlS FZ 1 w' cv (codesS (ss0 money) cs) ∧ SlS FI 1 w' wv ((stS (ss0 money) cs).ps.map Pr.mo) ∧ SlS FI 1 w' uv ((stS (ss0 money) cs).ps.map Pr.ow) ∧ SlS FV 1 w' bv vals ∧ vals.length = money.length * money.length ∧ (∀ (kw : Nat) (v : Sv), vals[kw]? = some v → SlS FI 1 w' (.slice v.a v.n v.c) (nts (stS (ss0 money) cs) money.length kw)) ∧ (dm = true ↔ DoneS (stS (ss0 money) cs) money.length)) (fun w H => play_ok (hm.below H.below) (hs.below H.below) hq1 h6 (by omega) hbad) ?_
  rintro _ W7 ⟨cv1, wv2, uv3, bv4, dm5, vals6, rfl, hcv1, hwv2, huv3, hbv4, hlbv4, hrbv4, hddm5⟩ H8
  have hW9 := H8.below
  have hs10 := hm.below H8.below
  have hs11 := hs.below H8.below
  have hclcv1 : (codesS (ss0 money) cs).length = (cs).length := codesS_len ..
  have hplcv1 : (stS (ss0 money) cs).ps.length = money.length := ((BdS.zero hm0).run h6 cs).len
  have hmlcv1 : ((stS (ss0 money) cs).ps.map Pr.mo).length = money.length := by rw [List.length_map]; exact hplcv1
  have holcv1 : ((stS (ss0 money) cs).ps.map Pr.ow).length = money.length := by rw [List.length_map]; exact hplcv1
  obtain ⟨sa12, sn13, sc14, rfl⟩ := hcv1.isS
  obtain ⟨sa15, sn16, sc17, rfl⟩ := hwv2.isS
  obtain ⟨sa18, sn19, sc20, rfl⟩ := huv3.isS
  obtain ⟨sa21, sn22, sc23, rfl⟩ := hbv4.isS
  refine Gx.val rfl rfl rfl (val_move rfl rfl) ?_
  refine Gx.val rfl rfl rfl (val_extract rfl rfl rfl) ?_
  refine Gx.val rfl rfl rfl (val_extract rfl rfl rfl) ?_
  refine Gx.eff rfl rfl rfl (eff_alloc rfl Try.ty27 (vs := [.slice none 0 0, .slice none 0 0, .slice none 0 0, .slice none 0 0, .bool false]) rfl) ?_
  rintro _ _ ⟨b24, rfl, rfl⟩
  refine Gx.eff0 rfl rfl (eff_store rfl Try.ty27 rfl rfl (us := [.slice sa12 sn13 sc14, .slice sa15 sn16 sc17, .slice sa18 sn19 sc20, .slice sa21 sn22 sc23, .bool dm5]) rfl rfl rfl (k := 0) rfl (rfl) (vs' := [.slice sa12 sn13 sc14, .slice sa15 sn16 sc17, .slice sa18 sn19 sc20, .slice sa21 sn22 sc23, .bool dm5]) (rfl) (l' := [Hp.rec_ b24 [.slice sa12 sn13 sc14, .slice sa15 sn16 sc17, .slice sa18 sn19 sc20, .slice sa21 sn22 sc23, .bool dm5]]) rfl) ?_
  rintro _ _ rfl
  refine Gx.val rfl rfl rfl (val_assign rfl rfl) ?_
  refine Gx.done ?_
  refine Gx.thenN ?_
  refine Gx.seq ?_
  refine Gx.seq ?_
  refine Gx.region ?_
  refine Gx.val rfl rfl rfl (val_move rfl rfl) ?_
  refine Gx.val rfl rfl rfl (Val.cast (val_neq rfl rfl rfl) (v' := .bool false) rfl) ?_
  refine Gx.val rfl rfl rfl (val_move rfl rfl) ?_
  refine Gx.valg rfl rfl rfl rfl rfl (val_move rfl rfl) ?_
  refine Gx.valg rfl rfl rfl rfl rfl (val_lss rfl rfl rfl) ?_
  refine Gx.val rfl rfl rfl (val_pickF rfl rfl rfl) ?_
  refine Gx.val rfl rfl rfl (val_move rfl rfl) ?_
  refine Gx.slot (t := 30) (v := .bool false) (look_decF rfl (by omega)) ?_
  refine Gx.valg rfl rfl rfl rfl rfl (val_move rfl rfl) ?_
  refine Gx.valg rfl rfl rfl rfl rfl (val_gtr rfl rfl rfl) ?_
  refine Gx.val rfl rfl rfl (val_pickF rfl rfl rfl) ?_
  refine Gx.val rfl rfl rfl (val_move rfl rfl) ?_
  refine Gx.slot (t := 34) (v := .bool false) (look_decF rfl (by omega)) ?_
  refine Gx.valg rfl rfl rfl rfl rfl (val_move rfl rfl) ?_
  refine Gx.valg rfl rfl rfl rfl rfl (val_len rfl Try.underlying23 rfl (len_base hs11)) ?_
  refine Gx.valg rfl rfl rfl rfl rfl (val_gtr rfl rfl rfl) ?_
  refine Gx.val rfl rfl rfl (val_pickF rfl rfl rfl) ?_
  refine Gx.done ?_
  refine Gx.thenN ?_
  refine Gx.decF rfl (by omega) ?_
  refine Gx.skip ?_
  refine Gx.thenN ?_
  refine Gx.seq ?_
  refine Gx.region ?_
  refine Gx.eff rfl rfl rfl (eff_buildNil (f := FM) (sz := 4) (e := 33) rfl Try.underlying23 (fun w => by first | (go_simp; done) | (go_simp; rfl))) ?_
  rintro v25 _ ⟨hiv25, rfl⟩
  refine Gx.val rfl rfl rfl (val_move rfl rfl) ?_
  refine Gx.eff rfl rfl rfl (eff_pushAll (k := 0) (ys := cs) rfl Try.eM FM_len FM_one rfl rfl (fun w H => hs11.below H.below) rfl (by first | omega | (simp; omega)) (by first | omega | (simp; omega))) ?_
  rintro v26 _ ⟨hiv26, rfl⟩
  refine Gx.norm (l' := [Hp.own FM 4 v26 cs, Hp.rec_ b24 [.slice sa12 sn13 sc14, .slice sa15 sn16 sc17, .slice sa18 sn19 sc20, .slice sa21 sn22 sc23, .bool dm5]]) rfl ?_
  refine Gx.val rfl rfl rfl (val_build rfl (qs := [(0, .int .i64 3)]) rfl rfl (fun w => by go_simp) (v := .agg #[.int .i64 3, .int .i64 0, .int .i64 0, .int .i64 0])) ?_
  refine Gx.eff rfl rfl rfl (eff_buildSlice rfl (qs := [(0, .agg #[.int .i64 3, .int .i64 0, .int .i64 0, .int .i64 0])]) rfl rfl (cs := #[.int .i64 3, .int .i64 0, .int .i64 0, .int .i64 0]) (vs := [.int .i64 3, .int .i64 0, .int .i64 0, .int .i64 0]) (E := 33) rfl (fun w => by first | (go_simp; done) | (go_simp; rfl))) ?_
  rintro _ _ ⟨b27, rfl, rfl⟩
  refine Gx.eff rfl rfl rfl (eff_push (r := beg) rfl Try.eM FM_len FM_one rfl rfl (k := 0) rfl rfl (k' := 0) rfl (by first | omega | (simp; omega)) (by first | omega | (simp; omega))) ?_
  rintro v28 _ ⟨hiv28, rfl⟩
  refine Gx.norm (l' := [Hp.own FM 4 v28 (cs ++ [beg]), Hp.rec_ b24 [.slice sa12 sn13 sc14, .slice sa15 sn16 sc17, .slice sa18 sn19 sc20, .slice sa21 sn22 sc23, .bool dm5]]) rfl ?_
  refine Gx.val rfl rfl rfl (val_assign rfl rfl) ?_
  refine Gx.done ?_
  refine Gx.thenN ?_
  refine Gx.seq ?_
  refine Gx.seq ?_
  refine Gx.norm (l' := [Hp.own FM 4 v28 (cs ++ [beg]), Hp.rec_ b24 [.slice sa12 sn13 sc14, .slice sa15 sn16 sc17, .slice sa18 sn19 sc20, .slice sa21 sn22 sc23, .bool dm5]]) (by simp <;> rfl) ?_
  refine Gx.region ?_
  refine Gx.val rfl rfl rfl (val_assign rfl rfl) ?_
  refine Gx.done ?_
  refine Gx.thenN ?_
  refine Gx.block ?_
  refine Gx.drop 1 rfl ?_
  refine Gx.loop (ι := Nat × (List Mv) × Value) (fun ξ => (ξ.1 ≤ 17) ∧ (ξ.2.1.length ≤ cs.length + 1 + 6 * ξ.1) ∧ (Turn money.length ξ.1 0 0 (stS (ss0 money) ξ.2.1)) ∧ (IsS ξ.2.2)) (fun ξ => [(0, mv), (5, .int .i64 ((money.length : Nat) : Int)), (8, ξ.2.2), (9, .int .i64 ((ξ.1 : Nat) : Int))]) (fun ξ => [Hp.own FM 4 ξ.2.2 ξ.2.1]) (fun ξ => 17 - ξ.1) (0, (cs ++ [beg]), v28) ⟨by first | omega | (dsimp only; omega), by simp, Turn.start (by omega) h6 hm0 (by omega), hiv28⟩ ((.cons rfl (.cons rfl (.cons rfl (.cons rfl .nil))))) rfl ?_
  rintro ⟨t, xs, vv⟩ ⟨ht, hxl, hT, hiv⟩
  dsimp only at ht hxl hT hiv
  refine Gx.know (m' := [(0, mv), (5, .int .i64 ((money.length : Nat) : Int)), (8, vv), (9, .int .i64 ((t : Nat) : Int))]) (.cons rfl (.cons rfl (.cons rfl (.cons rfl .nil)))) (Gx.norm (l' := [Hp.own FM 4 vv xs]) rfl ?_)
  refine Gx.seq ?_
  refine Gx.seq ?_
  refine Gx.region ?_
  refine Gx.val rfl rfl rfl (val_move rfl rfl) ?_
  refine Gx.val rfl rfl rfl (val_lss rfl rfl rfl) ?_
  refine Gx.done ?_
  refine Gx.thenN ?_
  refine Gx.dec rfl (fun h29 => ?_) (fun h29 => ?_)
  · refine Gx.skip ?_
    refine Gx.thenN ?_
    refine Gx.seq ?_
    refine Gx.block ?_
    refine Gx.seq ?_
    refine Gx.region ?_
    refine Gx.val rfl rfl rfl (val_assign rfl rfl) ?_
    refine Gx.done ?_
    refine Gx.thenN ?_
    refine Gx.block ?_
    refine Gx.loop (ι := Nat × (List Mv) × Value) (fun ξ => (ξ.1 ≤ money.length) ∧ (ξ.2.1.length ≤ xs.length + 2 * ξ.1) ∧ (Turn money.length t ξ.1 0 (stS (ss0 money) ξ.2.1)) ∧ (IsS ξ.2.2)) (fun ξ => [(0, mv), (5, .int .i64 ((money.length : Nat) : Int)), (8, ξ.2.2), (9, .int .i64 ((t : Nat) : Int)), (10, .int .i64 ((ξ.1 : Nat) : Int))]) (fun ξ => [Hp.own FM 4 ξ.2.2 ξ.2.1]) (fun ξ => money.length - ξ.1) (0, xs, vv) ⟨by first | omega | (dsimp only; omega), by dsimp only; omega, hT, hiv⟩ ((.cons rfl (.cons rfl (.cons rfl (.cons rfl (.cons rfl .nil)))))) rfl ?_
    rintro ⟨i, ys, vw⟩ ⟨hi, hyl, hT1, hiw⟩
    dsimp only at hi hyl hT1 hiw
    refine Gx.know (m' := [(0, mv), (5, .int .i64 ((money.length : Nat) : Int)), (8, vw), (9, .int .i64 ((t : Nat) : Int)), (10, .int .i64 ((i : Nat) : Int))]) (.cons rfl (.cons rfl (.cons rfl (.cons rfl (.cons rfl .nil))))) (Gx.norm (l' := [Hp.own FM 4 vw ys]) rfl ?_)
    refine Gx.seq ?_
    refine Gx.seq ?_
    refine Gx.region ?_
    refine Gx.val rfl rfl rfl (val_move rfl rfl) ?_
    refine Gx.val rfl rfl rfl (val_move rfl rfl) ?_
    refine Gx.val rfl rfl rfl (val_lss rfl rfl rfl) ?_
    refine Gx.done ?_
    refine Gx.thenN ?_
    refine Gx.dec rfl (fun h30 => ?_) (fun h30 => ?_)
    · refine Gx.skip ?_
      refine Gx.thenN ?_
      refine Gx.seq ?_
      refine Gx.block ?_
      refine Gx.seq ?_
      refine Gx.region ?_
      refine Gx.val rfl rfl rfl (val_assign rfl rfl) ?_
      refine Gx.done ?_
      refine Gx.thenN ?_
      refine Gx.block ?_
      refine Gx.loop (ι := Nat × (List Mv) × Value) (fun ξ => (ξ.1 ≤ money.length) ∧ ((ξ.1 ≤ i ∧ ξ.2.1.length = ys.length + ξ.1) ∨ (i < ξ.1 ∧ ξ.2.1.length + 1 = ys.length + ξ.1)) ∧ (Turn money.length t i ξ.1 (stS (ss0 money) ξ.2.1)) ∧ (IsS ξ.2.2)) (fun ξ => [(0, mv), (5, .int .i64 ((money.length : Nat) : Int)), (8, ξ.2.2), (9, .int .i64 ((t : Nat) : Int)), (10, .int .i64 ((i : Nat) : Int)), (11, .int .i64 ((ξ.1 : Nat) : Int))]) (fun ξ => [Hp.own FM 4 ξ.2.2 ξ.2.1]) (fun ξ => money.length - ξ.1) (0, ys, vw) ⟨by first | omega | (dsimp only; omega), by first | omega | (dsimp only; omega), hT1, hiw⟩ ((.cons rfl (.cons rfl (.cons rfl (.cons rfl (.cons rfl (.cons rfl .nil))))))) rfl ?_
      rintro ⟨j, zs, vx⟩ ⟨hj, hzl, hT2, hix⟩
      dsimp only at hj hzl hT2 hix
      refine Gx.know (m' := [(0, mv), (5, .int .i64 ((money.length : Nat) : Int)), (8, vx), (9, .int .i64 ((t : Nat) : Int)), (10, .int .i64 ((i : Nat) : Int)), (11, .int .i64 ((j : Nat) : Int))]) (.cons rfl (.cons rfl (.cons rfl (.cons rfl (.cons rfl (.cons rfl .nil)))))) (Gx.norm (l' := [Hp.own FM 4 vx zs]) rfl ?_)
      refine Gx.seq ?_
      refine Gx.seq ?_
      refine Gx.region ?_
      refine Gx.val rfl rfl rfl (val_move rfl rfl) ?_
      refine Gx.val rfl rfl rfl (val_move rfl rfl) ?_
      refine Gx.val rfl rfl rfl (val_lss rfl rfl rfl) ?_
      refine Gx.done ?_
      refine Gx.thenN ?_
      refine Gx.dec rfl (fun h31 => ?_) (fun h31 => ?_)
      · refine Gx.skip ?_
        refine Gx.thenN ?_
        refine Gx.seq ?_
        refine Gx.block ?_
        refine Gx.seq ?_
        refine Gx.region ?_
        refine Gx.val rfl rfl rfl (val_move rfl rfl) ?_
        refine Gx.val rfl rfl rfl (val_move rfl rfl) ?_
        refine Gx.val rfl rfl rfl (val_neq rfl rfl rfl) ?_
        refine Gx.done ?_
        refine Gx.thenN ?_
        refine Gx.dec rfl (fun h32 => ?_) (fun h32 => ?_)
        · refine Gx.region ?_
          refine Gx.val rfl rfl rfl (val_move rfl rfl) ?_
          refine Gx.val rfl rfl rfl (val_move rfl rfl) ?_
          refine Gx.val rfl rfl rfl (val_move rfl rfl) ?_
          refine Gx.val rfl rfl rfl (val_build rfl (qs := [(0, .int .i64 2), (1, .int .i64 ((i : Nat) : Int)), (2, .int .i64 ((j : Nat) : Int))]) rfl rfl (fun w => by go_simp) (v := .agg #[.int .i64 2, .int .i64 ((i : Nat) : Int), .int .i64 ((j : Nat) : Int), .int .i64 0])) ?_
          refine Gx.eff rfl rfl rfl (eff_buildSlice rfl (qs := [(0, .agg #[.int .i64 2, .int .i64 ((i : Nat) : Int), .int .i64 ((j : Nat) : Int), .int .i64 0])]) rfl rfl (cs := #[.int .i64 2, .int .i64 ((i : Nat) : Int), .int .i64 ((j : Nat) : Int), .int .i64 0]) (vs := [.int .i64 2, .int .i64 ((i : Nat) : Int), .int .i64 ((j : Nat) : Int), .int .i64 0]) (E := 33) rfl (fun w => by first | (go_simp; done) | (go_simp; rfl))) ?_
          rintro _ _ ⟨b33, rfl, rfl⟩
          refine Gx.eff rfl rfl rfl (eff_push (r := (tk i j)) rfl Try.eM FM_len FM_one rfl rfl (k := 0) rfl rfl (k' := 0) rfl (by omega) (by omega)) ?_
          rintro v34 _ ⟨hiv34, rfl⟩
          refine Gx.norm (l' := [Hp.own FM 4 v34 (zs ++ [(tk i j)])]) rfl ?_
          refine Gx.val rfl rfl rfl (val_assign rfl rfl) ?_
          refine Gx.done ?_
          refine Gx.blkN ?_
          refine Gx.thenN ?_
          refine Gx.region ?_
          refine Gx.val rfl rfl rfl (val_move rfl rfl) ?_
          refine Gx.val rfl rfl rfl (val_add rfl rfl rfl (r := ((j + 1 : Nat) : Int)) (w64 (by omega) (by omega))) ?_
          refine Gx.val rfl rfl rfl (val_assign rfl rfl) ?_
          refine Gx.done ?_
          refine Gx.thenN ?_
          exact Gx.round (j + 1, (zs ++ [(tk i j)]), v34) ⟨by first | omega | (dsimp only; omega), by first | (dsimp only; omega) | (dsimp only; rw [List.length_append, List.length_singleton]; omega), hT2.pushed h6 hm0 (by omega) (by omega) (by omega), hiv34⟩ (by first | omega | (dsimp only; omega)) ((.cons rfl (.cons rfl (.cons rfl (.cons rfl (.cons rfl (.cons rfl .nil))))))) rfl
        · refine Gx.skip ?_
          refine Gx.blkN ?_
          refine Gx.thenN ?_
          refine Gx.region ?_
          refine Gx.val rfl rfl rfl (val_move rfl rfl) ?_
          refine Gx.val rfl rfl rfl (val_add rfl rfl rfl (r := ((j + 1 : Nat) : Int)) (w64 (by omega) (by omega))) ?_
          refine Gx.val rfl rfl rfl (val_assign rfl rfl) ?_
          refine Gx.done ?_
          refine Gx.thenN ?_
          exact Gx.round (j + 1, zs, vx) ⟨by first | omega | (dsimp only; omega), by first | (dsimp only; omega) | (dsimp only; rw [List.length_append, List.length_singleton]; omega), (by have e9 : j = i := (by omega); rw [e9] at hT2 ⊢; exact hT2.skip), hix⟩ (by first | omega | (dsimp only; omega)) ((.cons rfl (.cons rfl (.cons rfl (.cons rfl (.cons rfl (.cons rfl .nil))))))) rfl
      · refine Gx.exit ?_
        refine Gx.thenE ?_
        refine Gx.thenE ?_
        refine Gx.blkE ?_
        refine Gx.blkN ?_
        refine Gx.thenN ?_
        refine Gx.region ?_
        refine Gx.val rfl rfl rfl (val_move rfl rfl) ?_
        refine Gx.val rfl rfl rfl (val_add rfl rfl rfl (r := ((i + 1 : Nat) : Int)) (w64 (by omega) (by omega))) ?_
        refine Gx.val rfl rfl rfl (val_assign rfl rfl) ?_
        refine Gx.done ?_
        refine Gx.thenN ?_
        exact Gx.round (i + 1, zs, vx) ⟨by first | omega | (dsimp only; omega), by dsimp only; omega, (by have e9 : j = money.length := (by omega); rw [e9] at hT2; exact hT2.row), hix⟩ (by first | omega | (dsimp only; omega)) ((.cons rfl (.cons rfl (.cons rfl (.cons rfl (.cons rfl .nil)))))) rfl
    · refine Gx.exit ?_
      refine Gx.thenE ?_
      refine Gx.thenE ?_
      refine Gx.blkE ?_
      refine Gx.blkN ?_
      refine Gx.thenN ?_
      refine Gx.region ?_
      refine Gx.val rfl rfl rfl (val_move rfl rfl) ?_
      refine Gx.val rfl rfl rfl (val_add rfl rfl rfl (r := ((t + 1 : Nat) : Int)) (w64 (by omega) (by omega))) ?_
      refine Gx.val rfl rfl rfl (val_assign rfl rfl) ?_
      refine Gx.done ?_
      refine Gx.thenN ?_
      exact Gx.round (t + 1, ys, vw) ⟨by first | omega | (dsimp only; omega), by dsimp only; omega, (by have e9 : i = money.length := (by omega); rw [e9] at hT1; exact hT1.next), hiw⟩ (by first | omega | (dsimp only; omega)) ((.cons rfl (.cons rfl (.cons rfl (.cons rfl .nil))))) rfl
  · refine Gx.exit ?_
    refine Gx.thenE ?_
    refine Gx.thenE ?_
    refine Gx.blkE ?_
    refine Gx.thenN ?_
    refine Gx.seq ?_
    refine Gx.seq ?_
    have e17 : t = 17 := by omega
    subst e17
    have inv := (InvS.zero (money := money)).run h6 xs (BdS.zero hm0)
    have bdx := (BdS.zero hm0).run h6 xs
    obtain ⟨hdone, htot⟩ := hT.done (by omega) inv bdx
    refine Gx.region ?_
    refine Gx.val rfl rfl rfl (val_move rfl rfl) ?_
    refine Gx.val rfl rfl rfl (val_len rfl Try.underlying23 rfl (len_own (k := 0) rfl)) ?_
    refine Gx.val rfl rfl rfl (val_gtr rfl rfl rfl) ?_
    refine Gx.done ?_
    refine Gx.thenN ?_
    refine Gx.decF rfl (by omega) ?_
    refine Gx.skip ?_
    refine Gx.thenN ?_
    refine Gx.seq ?_
    refine Gx.region ?_
    refine Gx.val rfl rfl rfl (val_move rfl rfl) ?_
    refine Gx.val rfl rfl rfl (val_move rfl rfl) ?_
    refine Gx.callB rfl rfl rfl (vs := [mv, vv]) rfl Try.fn7 rfl (R := fun v w' => ∃ (cv wv uv bv : Value) (dm : Bool) (vals : List Sv), v = .tuple #[.agg #[cv, wv, uv, bv, .bool dm], .int .i64 0] ∧ SlS FZ 1 w' cv (codesS (ss0 money) xs) ∧ SlS FI 1 w' wv ((stS (ss0 money) xs).ps.map Pr.mo) ∧ SlS FI 1 w' uv ((stS (ss0 money) xs).ps.map Pr.ow) ∧ SlS FV 1 w' bv vals ∧ vals.length = money.length * money.length ∧ (∀ (kw : Nat) (v : Sv), vals[kw]? = some v → SlS FI 1 w' (.slice v.a v.n v.c) (nts (stS (ss0 money) xs) money.length kw)) ∧ (dm = true ↔ DoneS (stS (ss0 money) xs) money.length)) (fun w H => play_ok (hs10.below H.below) ((H.at_ (k := 0) rfl).sls (by first | omega | (simp; omega))) hq1 h6 (by omega) hbad) ?_
    rintro _ W41 ⟨cv35, wv36, uv37, bv38, dm39, vals40, rfl, hcv35, hwv36, huv37, hbv38, hlbv38, hrbv38, hddm39⟩ H42
    have hW43 := hW9.trans (H42.below.mono hW9.size)
    have hs44 := hs10.below H42.below
    have hs45 := hs11.below H42.below
    have hs46 := hcv1.below H42.below
    have hs47 := hwv2.below H42.below
    have hs48 := huv3.below H42.below
    have hs49 := hbv4.below H42.below
    have hs50 := (H42.at_ (k := 0) rfl).sls (by first | omega | (simp; omega))
    have hclcv35 : (codesS (ss0 money) xs).length = (xs).length := codesS_len ..
    have hplcv35 : (stS (ss0 money) xs).ps.length = money.length := ((BdS.zero hm0).run h6 xs).len
    have hmlcv35 : ((stS (ss0 money) xs).ps.map Pr.mo).length = money.length := by rw [List.length_map]; exact hplcv35
    have holcv35 : ((stS (ss0 money) xs).ps.map Pr.ow).length = money.length := by rw [List.length_map]; exact hplcv35
    obtain ⟨sa51, sn52, sc53, rfl⟩ := hcv35.isS
    obtain ⟨sa54, sn55, sc56, rfl⟩ := hwv36.isS
    obtain ⟨sa57, sn58, sc59, rfl⟩ := huv37.isS
    obtain ⟨sa60, sn61, sc62, rfl⟩ := hbv38.isS
    refine Gx.val rfl rfl rfl (val_move rfl rfl) ?_
    refine Gx.val rfl rfl rfl (val_extract rfl rfl rfl) ?_
    refine Gx.val rfl rfl rfl (val_extract rfl rfl rfl) ?_
    refine Gx.eff rfl rfl rfl (eff_alloc rfl Try.ty27 (vs := [.slice none 0 0, .slice none 0 0, .slice none 0 0, .slice none 0 0, .bool false]) rfl) ?_
    rintro _ _ ⟨b63, rfl, rfl⟩
    refine Gx.eff0 rfl rfl (eff_store rfl Try.ty27 rfl rfl (us := [.slice sa51 sn52 sc53, .slice sa54 sn55 sc56, .slice sa57 sn58 sc59, .slice sa60 sn61 sc62, .bool dm39]) rfl rfl rfl (k := 0) rfl (rfl) (vs' := [.slice sa51 sn52 sc53, .slice sa54 sn55 sc56, .slice sa57 sn58 sc59, .slice sa60 sn61 sc62, .bool dm39]) (rfl) (l' := [Hp.rec_ b63 [.slice sa51 sn52 sc53, .slice sa54 sn55 sc56, .slice sa57 sn58 sc59, .slice sa60 sn61 sc62, .bool dm39]]) rfl) ?_
    rintro _ _ rfl
    refine Gx.val rfl rfl rfl (val_assign rfl rfl) ?_
    refine Gx.done ?_
    refine Gx.thenN ?_
    refine Gx.seq ?_
    refine Gx.seq ?_
    refine Gx.region ?_
    refine Gx.val rfl rfl rfl (val_move rfl rfl) ?_
    refine Gx.val rfl rfl rfl (Val.cast (val_neq rfl rfl rfl) (v' := .bool false) rfl) ?_
    refine Gx.val rfl rfl rfl (val_move rfl rfl) ?_
    refine Gx.valg rfl rfl rfl rfl rfl (Val.cast (val_fieldAddr rfl Try.underlying27 rfl Try.ty22 rfl rfl) (v' := ptr b63 1) rfl) ?_
    refine Gx.valg rfl rfl rfl rfl rfl (val_load rfl Try.ty22 rfl rfl (cell_rec (k := 0) rfl rfl)) ?_
    refine Gx.valg rfl rfl rfl rfl rfl (val_len rfl Try.underlying22 rfl (len_base hwv36)) ?_
    refine Gx.valg rfl rfl rfl rfl rfl (val_move rfl rfl) ?_
    refine Gx.valg rfl rfl rfl rfl rfl (val_neq rfl rfl rfl) ?_
    refine Gx.val rfl rfl rfl (val_pickF rfl rfl rfl) ?_
    refine Gx.done ?_
    refine Gx.thenN ?_
    refine Gx.decF rfl (by omega) ?_
    refine Gx.skip ?_
    refine Gx.thenN ?_
    refine Gx.seq ?_
    refine Gx.region ?_
    refine Gx.val rfl rfl rfl (val_assign rfl rfl) ?_
    refine Gx.done ?_
    refine Gx.thenN ?_
    refine Gx.seq ?_
    refine Gx.region ?_
    refine Gx.val rfl rfl rfl (val_assign rfl rfl) ?_
    refine Gx.done ?_
    refine Gx.thenN ?_
    refine Gx.seq ?_
    refine Gx.seq ?_
    refine Gx.region ?_
    refine Gx.val rfl rfl rfl (val_assign rfl rfl) ?_
    refine Gx.done ?_
    refine Gx.thenN ?_
    refine Gx.block ?_
    refine Gx.loop (ι := Nat) (fun ξ => (ξ ≤ money.length)) (fun ξ => [(0, mv), (5, .int .i64 ((money.length : Nat) : Int)), (12, ptr b63 0), (13, .int .i64 (lsum (money.take ξ))), (14, .int .i64 (lsum (((stS (ss0 money) xs).ps.map Pr.mo).take ξ))), (15, .int .i64 ((ξ : Nat) : Int))]) (fun ξ => [Hp.rec_ b63 [.slice sa51 sn52 sc53, .slice sa54 sn55 sc56, .slice sa57 sn58 sc59, .slice sa60 sn61 sc62, .bool dm39]]) (fun ξ => money.length - ξ) 0 (by first | omega | (dsimp only; omega)) ((.cons rfl (.cons rfl (.cons rfl (.cons rfl (.cons rfl (.cons rfl .nil))))))) rfl ?_
    rintro q hq
    refine Gx.know (m' := [(0, mv), (5, .int .i64 ((money.length : Nat) : Int)), (12, ptr b63 0), (13, .int .i64 (lsum (money.take q))), (14, .int .i64 (lsum (((stS (ss0 money) xs).ps.map Pr.mo).take q))), (15, .int .i64 ((q : Nat) : Int))]) (.cons rfl (.cons rfl (.cons rfl (.cons rfl (.cons rfl (.cons rfl .nil)))))) (Gx.norm (l' := [Hp.rec_ b63 [.slice sa51 sn52 sc53, .slice sa54 sn55 sc56, .slice sa57 sn58 sc59, .slice sa60 sn61 sc62, .bool dm39]]) rfl ?_)
    have hb1 := take_bd hmb hq
    have hb3 := take_bd (hxb xs) (show q ≤ ((stS (ss0 money) xs).ps.map Pr.mo).length by omega)
    refine Gx.seq ?_
    refine Gx.seq ?_
    refine Gx.region ?_
    refine Gx.val rfl rfl rfl (val_move rfl rfl) ?_
    refine Gx.val rfl rfl rfl (val_move rfl rfl) ?_
    refine Gx.val rfl rfl rfl (val_lss rfl rfl rfl) ?_
    refine Gx.done ?_
    refine Gx.thenN ?_
    refine Gx.dec rfl (fun h64 => ?_) (fun h64 => ?_)
    · refine Gx.skip ?_
      refine Gx.thenN ?_
      refine Gx.seq ?_
      refine Gx.block ?_
      refine Gx.seq ?_
      refine Gx.region ?_
      refine Gx.val rfl rfl rfl (val_move rfl rfl) ?_
      refine Gx.val rfl rfl rfl (val_move rfl rfl) ?_
      refine Gx.val rfl rfl rfl (val_move rfl rfl) ?_
      obtain ⟨x65, hx65⟩ := get_of_lt (xs := money) (k := q) (by omega)
      refine Gx.val rfl rfl rfl (val_ixa rfl Try.underlying22 Try.ty3 rfl rfl (j := q) (rfl) (reach_base hs44 hx65)) ?_
      refine Gx.val rfl rfl rfl (val_load rfl Try.ty3 rfl rfl (cell_base (i := 0) hs44 hx65 rfl)) ?_
      refine Gx.val rfl rfl rfl (val_add rfl rfl rfl (r := ((lsum (money.take q)) + x65)) (w64 rfl (by have := hmb _ (List.mem_of_getElem? hx65); omega))) ?_
      refine Gx.val rfl rfl rfl (val_assign rfl rfl) ?_
      refine Gx.done ?_
      refine Gx.thenN ?_
      refine Gx.region ?_
      refine Gx.val rfl rfl rfl (val_move rfl rfl) ?_
      refine Gx.val rfl rfl rfl (Val.cast (val_fieldAddr rfl Try.underlying27 rfl Try.ty22 rfl rfl) (v' := ptr b63 1) rfl) ?_
      refine Gx.val rfl rfl rfl (val_load rfl Try.ty22 rfl rfl (cell_rec (k := 0) rfl rfl)) ?_
      refine Gx.val rfl rfl rfl (val_move rfl rfl) ?_
      obtain ⟨x66, hx66⟩ := get_of_lt (xs := ((stS (ss0 money) xs).ps.map Pr.mo)) (k := q) (by omega)
      refine Gx.val rfl rfl rfl (val_ixa rfl Try.underlying22 Try.ty3 rfl rfl (j := q) (rfl) (reach_base hwv36 hx66)) ?_
      refine Gx.val rfl rfl rfl (val_load rfl Try.ty3 rfl rfl (cell_base (i := 0) hwv36 hx66 rfl)) ?_
      refine Gx.val rfl rfl rfl (val_add rfl rfl rfl (r := ((lsum (((stS (ss0 money) xs).ps.map Pr.mo).take q)) + x66)) (w64 rfl (by have := (hxb xs) _ (List.mem_of_getElem? hx66); omega))) ?_
      refine Gx.val rfl rfl rfl (val_assign rfl rfl) ?_
      refine Gx.done ?_
      refine Gx.blkN ?_
      refine Gx.thenN ?_
      refine Gx.slot (t := 13) (v := .int .i64 (lsum (money.take (q + 1)))) (by rw [lsum_snoc hx65] <;> rfl) ?_
      refine Gx.slot (t := 14) (v := .int .i64 (lsum (((stS (ss0 money) xs).ps.map Pr.mo).take (q + 1)))) (by rw [lsum_snoc hx66] <;> rfl) ?_
      refine Gx.region ?_
      refine Gx.val rfl rfl rfl (val_move rfl rfl) ?_
      refine Gx.val rfl rfl rfl (val_add rfl rfl rfl (r := ((q + 1 : Nat) : Int)) (w64 (by omega) (by omega))) ?_
      refine Gx.val rfl rfl rfl (val_assign rfl rfl) ?_
      refine Gx.done ?_
      refine Gx.thenN ?_
      exact Gx.round (q + 1) (by first | omega | (dsimp only; omega)) (by first | omega | (dsimp only; omega)) ((.cons rfl (.cons rfl (.cons rfl (.cons rfl (.cons rfl (.cons rfl .nil))))))) rfl
    · refine Gx.exit ?_
      refine Gx.thenE ?_
      refine Gx.thenE ?_
      refine Gx.blkE ?_
      refine Gx.thenN ?_
      refine Gx.seq ?_
      refine Gx.region ?_
      refine Gx.val rfl rfl rfl (Val.cast (val_fieldAddr rfl Try.underlying27 rfl Try.ty4 rfl rfl) (v' := ptr b63 4) rfl) ?_
      refine Gx.val rfl rfl rfl (val_load rfl Try.ty4 rfl rfl (cell_rec (k := 0) rfl rfl)) ?_
      refine Gx.val rfl rfl rfl (val_move rfl rfl) ?_
      refine Gx.slot (t := 127) (v := .bool true) (look_boolT rfl (hddm39.2 hdone)) ?_
      refine Gx.valg rfl rfl rfl rfl rfl (val_move rfl rfl) ?_
      refine Gx.valg rfl rfl rfl rfl rfl (val_move rfl rfl) ?_
      refine Gx.valg rfl rfl rfl rfl rfl (val_eql rfl rfl rfl) ?_
      refine Gx.val rfl rfl rfl (val_pickT rfl rfl rfl) ?_
      refine Gx.val rfl rfl rfl (val_assign rfl rfl) ?_
      refine Gx.done ?_
      refine Gx.thenN ?_
      refine Gx.ret ?_
      refine Gx.ret1B hW43 Try.results4 rfl ?_
      refine congrArg Value.bool (decide_eq_true ?_)
      rw [List.take_of_length_le (show money.length ≤ q by omega), List.take_of_length_le (show ((stS (ss0 money) xs).ps.map Pr.mo).length ≤ q by omega)]
      exact htot

theorem ends_any {W : World} {mv sv : Value} {money : List Int} {cs : List Mv} (hm : SlS FI 1 W mv money) (hs : SlS FM 4 W sv cs) :
    Calls Try.prog 4 #[mv, sv] W fun e w' => e = .returned (.bool true) ∧ Below W.heap.size W w' := by
  by_cases h : money.length = 0 ∨ 6 < money.length ∨ 120 < cs.length
  · exact ends_no1 hm hs h
  · by_cases h2 : 0 ≤ firstB money
    · exact ends_no2 hm hs h h2
    · by_cases h3 : money.length < 2 ∨ 3 < money.length ∨ 12 < cs.length
      · exact ends_out hm hs (by omega) (by omega) (by omega) h2 h3
      · exact ends_yes hm hs (by omega) (by omega) (by omega) h2 h3
end Go.Proofs.Ytanipkddfngnnaa
