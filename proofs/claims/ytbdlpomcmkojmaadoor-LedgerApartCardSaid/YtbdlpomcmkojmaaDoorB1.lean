/- No pay is made twice. The walk. No condition. -/
import Derived.Test.YtbdlpomcmkojmaaDoorM1
namespace Go.Proofs.YtbdlpomcmkojmaaDoor
open Go.RowKit
set_option linter.unusedVariables false
set_option linter.unusedSimpArgs false
set_option maxRecDepth 100000

theorem once_no {W : World} {mv pv : Value} {money : List Int} {pays : List Py} (hg : HG W) (hm : SlS FM 1 W mv money) (hp : SlS FP 4 W pv pays) (hno : ¬ OkL money pays.length) :
    Calls Tryd.prog 4 #[mv, pv] W fun e w' => e = .returned (.bool true) ∧ Below W.heap.size W w' := by
  have hm1 := len_bd hm
  have hp1 := len_bd hp
  refine calls_pure (Gx.enter (l := []) Tryd.func4 rfl Tryd.ntmps4 rfl (Sat.start W) ?_)
  refine Gx.know (m' := [(0, mv), (1, pv)]) (.cons rfl (.cons rfl .nil)) ?_
  refine Gx.seq ?_
  refine Gx.region ?_
  refine Gx.val rfl rfl rfl (val_assign rfl rfl) ?_
  refine Gx.done ?_
  refine Gx.thenN ?_
  refine Gx.seq ?_
  refine Gx.region ?_
  refine Gx.val rfl rfl rfl (val_move rfl rfl) ?_
  refine Gx.val rfl rfl rfl (val_move rfl rfl) ?_
  refine Gx.eff rfl rfl rfl (eff_callE (vs := [mv, pv]) rfl Tryd.fn7 rfl (R := fun u => ∃ c : Int, u = .tuple #[.slice none 0 0, .slice none 0 0, .int .i64 c] ∧ c ≠ 0) (fun w H => play_no (hm.below H.below) (hp.below H.below) hno)) ?_
  rintro _ _ ⟨⟨c1, rfl, hc1⟩, rfl⟩
  refine Gx.val rfl rfl rfl (val_move rfl rfl) ?_
  refine Gx.val rfl rfl rfl (val_extract rfl rfl rfl) ?_
  refine Gx.val rfl rfl rfl (val_extract rfl rfl rfl) ?_
  refine Gx.val rfl rfl rfl (val_extract rfl rfl rfl) ?_
  refine Gx.val rfl rfl rfl (val_assign rfl rfl) ?_
  refine Gx.val rfl rfl rfl (val_assign rfl rfl) ?_
  refine Gx.val rfl rfl rfl (val_assign rfl rfl) ?_
  refine Gx.done ?_
  refine Gx.thenN ?_
  refine Gx.seq ?_
  refine Gx.seq ?_
  refine Gx.region ?_
  refine Gx.val rfl rfl rfl (val_move rfl rfl) ?_
  refine Gx.val rfl rfl rfl (val_neq rfl rfl rfl) ?_
  refine Gx.val rfl rfl rfl (val_move rfl rfl) ?_
  refine Gx.slot (t := 19) (v := .bool true) (look_decT rfl (by assumption)) ?_
  refine Gx.skipg rfl rfl rfl rfl rfl rfl ?_
  refine Gx.skipg rfl rfl rfl rfl rfl rfl ?_
  refine Gx.skipg rfl rfl rfl rfl rfl rfl ?_
  refine Gx.skipg rfl rfl rfl rfl rfl rfl ?_
  refine Gx.skipg rfl rfl rfl rfl rfl rfl ?_
  refine Gx.val rfl rfl rfl (val_pickT rfl rfl rfl) ?_
  refine Gx.done ?_
  refine Gx.thenN ?_
  refine Gx.t rfl ?_
  refine Gx.seq ?_
  refine Gx.region ?_
  refine Gx.val rfl rfl rfl (val_move rfl rfl) ?_
  refine Gx.val rfl rfl rfl (val_neq rfl rfl rfl) ?_
  refine Gx.val rfl rfl rfl (val_assign rfl rfl) ?_
  refine Gx.done ?_
  refine Gx.thenN ?_
  refine Gx.ret ?_
  refine Gx.thenR ?_
  refine Gx.ret1 Tryd.results4 rfl ?_
  exact congrArg Value.bool (decide_eq_true (by assumption))

theorem once_yes {W : World} {mv pv : Value} {money : List Int} {pays : List Py} (hg : HG W) (hm : SlS FM 1 W mv money) (hp : SlS FP 4 W pv pays) (hok : OkL money pays.length) :
    Calls Tryd.prog 4 #[mv, pv] W fun e w' => e = .returned (.bool true) ∧ Below W.heap.size W w' := by
  have hm1 := len_bd hm
  have hp1 := len_bd hp
  refine calls_pure (Gx.enter (l := []) Tryd.func4 rfl Tryd.ntmps4 rfl (Sat.start W) ?_)
  refine Gx.know (m' := [(0, mv), (1, pv)]) (.cons rfl (.cons rfl .nil)) ?_
  refine Gx.seq ?_
  refine Gx.region ?_
  refine Gx.val rfl rfl rfl (val_assign rfl rfl) ?_
  refine Gx.done ?_
  refine Gx.thenN ?_
  refine Gx.seq ?_
  refine Gx.region ?_
  refine Gx.val rfl rfl rfl (val_move rfl rfl) ?_
  refine Gx.val rfl rfl rfl (val_move rfl rfl) ?_
  refine Gx.callB rfl rfl rfl (vs := [mv, pv]) rfl Tryd.fn7 rfl (R := fun v w' => ∃ av cv, v = .tuple #[av, cv, .int .i64 0] ∧ SlS FA 2 w' av (accsL (start0 money) pays) ∧ SlS FZ 1 w' cv (codesL (start0 money) pays)) (fun w H => play_ok (hg.below H.below) (hm.below H.below) (hp.below H.below) hok) ?_
  rintro _ W3 ⟨av2, cv1, rfl, hav2, hcv1⟩ H4
  have hW5 := H4.below
  have hs6 := hm.below H4.below
  have hs7 := hp.below H4.below
  have hclcv1 : (codesL (start0 money) pays).length = (pays).length := codesL_len ..
  have halav2 : (accsL (start0 money) pays).length = money.length := by rw [accsL_len, start_len]
  refine Gx.val rfl rfl rfl (val_move rfl rfl) ?_
  refine Gx.val rfl rfl rfl (val_extract rfl rfl rfl) ?_
  refine Gx.val rfl rfl rfl (val_extract rfl rfl rfl) ?_
  refine Gx.val rfl rfl rfl (val_extract rfl rfl rfl) ?_
  refine Gx.val rfl rfl rfl (val_assign rfl rfl) ?_
  refine Gx.val rfl rfl rfl (val_assign rfl rfl) ?_
  refine Gx.val rfl rfl rfl (val_assign rfl rfl) ?_
  refine Gx.done ?_
  refine Gx.thenN ?_
  refine Gx.seq ?_
  refine Gx.seq ?_
  refine Gx.region ?_
  refine Gx.val rfl rfl rfl (val_move rfl rfl) ?_
  refine Gx.val rfl rfl rfl (Val.cast (val_neq rfl rfl rfl) (v' := .bool false) rfl) ?_
  refine Gx.val rfl rfl rfl (val_move rfl rfl) ?_
  refine Gx.valg rfl rfl rfl rfl rfl (val_move rfl rfl) ?_
  refine Gx.valg rfl rfl rfl rfl rfl (val_len rfl Tryd.underlying25 rfl (len_base hcv1)) ?_
  refine Gx.valg rfl rfl rfl rfl rfl (val_move rfl rfl) ?_
  refine Gx.valg rfl rfl rfl rfl rfl (val_len rfl Tryd.underlying23 rfl (len_base hs7)) ?_
  refine Gx.valg rfl rfl rfl rfl rfl (val_neq rfl rfl rfl) ?_
  refine Gx.val rfl rfl rfl (val_pickF rfl rfl rfl) ?_
  refine Gx.done ?_
  refine Gx.thenN ?_
  refine Gx.decF rfl (by omega) ?_
  refine Gx.skip ?_
  refine Gx.thenN ?_
  refine Gx.seq ?_
  refine Gx.seq ?_
  refine Gx.region ?_
  refine Gx.val rfl rfl rfl (val_assign rfl rfl) ?_
  refine Gx.done ?_
  refine Gx.thenN ?_
  refine Gx.block ?_
  refine Gx.loop (ι := Nat) (fun ξ => (ξ ≤ pays.length)) (fun ξ => [(0, mv), (1, pv), (5, av2), (6, cv1), (8, .int .i64 ((ξ : Nat) : Int))]) (fun ξ => []) (fun ξ => pays.length - ξ) 0 (by first | omega | (dsimp only; omega)) ((.cons rfl (.cons rfl (.cons rfl (.cons rfl (.cons rfl .nil)))))) rfl ?_
  rintro i hi
  refine Gx.know (m' := [(0, mv), (1, pv), (5, av2), (6, cv1), (8, .int .i64 ((i : Nat) : Int))]) (.cons rfl (.cons rfl (.cons rfl (.cons rfl (.cons rfl .nil))))) (Gx.norm (l' := []) rfl ?_)
  refine Gx.seq ?_
  refine Gx.seq ?_
  refine Gx.region ?_
  refine Gx.val rfl rfl rfl (val_move rfl rfl) ?_
  refine Gx.val rfl rfl rfl (val_move rfl rfl) ?_
  refine Gx.val rfl rfl rfl (val_len rfl Tryd.underlying23 rfl (len_base hs7)) ?_
  refine Gx.val rfl rfl rfl (val_lss rfl rfl rfl) ?_
  refine Gx.done ?_
  refine Gx.thenN ?_
  refine Gx.dec rfl (fun h8 => ?_) (fun h8 => ?_)
  · refine Gx.skip ?_
    refine Gx.thenN ?_
    refine Gx.seq ?_
    refine Gx.block ?_
    refine Gx.seq ?_
    refine Gx.region ?_
    refine Gx.val rfl rfl rfl (val_assign rfl rfl) ?_
    refine Gx.done ?_
    refine Gx.thenN ?_
    refine Gx.block ?_
    refine Gx.loop (ι := Nat) (fun ξ => (ξ ≤ i)) (fun ξ => [(0, mv), (1, pv), (5, av2), (6, cv1), (8, .int .i64 ((i : Nat) : Int)), (9, .int .i64 ((ξ : Nat) : Int))]) (fun ξ => []) (fun ξ => i - ξ) 0 (by first | omega | (dsimp only; omega)) ((.cons rfl (.cons rfl (.cons rfl (.cons rfl (.cons rfl (.cons rfl .nil))))))) rfl ?_
    rintro j hj
    refine Gx.know (m' := [(0, mv), (1, pv), (5, av2), (6, cv1), (8, .int .i64 ((i : Nat) : Int)), (9, .int .i64 ((j : Nat) : Int))]) (.cons rfl (.cons rfl (.cons rfl (.cons rfl (.cons rfl (.cons rfl .nil)))))) (Gx.norm (l' := []) rfl ?_)
    refine Gx.seq ?_
    refine Gx.seq ?_
    refine Gx.region ?_
    refine Gx.val rfl rfl rfl (val_move rfl rfl) ?_
    refine Gx.val rfl rfl rfl (val_move rfl rfl) ?_
    refine Gx.val rfl rfl rfl (val_lss rfl rfl rfl) ?_
    refine Gx.done ?_
    refine Gx.thenN ?_
    refine Gx.dec rfl (fun h9 => ?_) (fun h9 => ?_)
    · refine Gx.skip ?_
      refine Gx.thenN ?_
      refine Gx.seq ?_
      refine Gx.block ?_
      refine Gx.seq ?_
      refine Gx.regionQ Tryd.mixed (by kernel_rfl) ?_
      refine Gq.val rfl rfl rfl (val_move rfl rfl) ?_
      refine Gq.val rfl rfl rfl (val_move rfl rfl) ?_
      obtain ⟨x10, hx10⟩ := get_of_lt (xs := (codesL (start0 money) pays)) (k := i) (by omega)
      refine Gq.val rfl rfl rfl (val_ixa rfl Tryd.underlying25 Tryd.ty26 rfl rfl (j := i) (rfl) (reach_base hcv1 hx10)) ?_
      refine Gq.val rfl rfl rfl (val_load rfl Tryd.ty26 rfl rfl (cell_base (i := 0) hcv1 hx10 rfl)) ?_
      refine Gq.val rfl rfl rfl (val_eql rfl rfl rfl) ?_
      refine Gq.val rfl rfl rfl (val_move rfl rfl) ?_
      refine Gq.cases (t := 44) rfl (fun h11 => ?_) (fun h11 => ?_)
      · refine Gq.valg rfl rfl rfl rfl rfl (val_move rfl rfl) ?_
        refine Gq.valg rfl rfl rfl rfl rfl (val_move rfl rfl) ?_
        obtain ⟨x12, hx12⟩ := get_of_lt (xs := (codesL (start0 money) pays)) (k := j) (by omega)
        refine Gq.valg rfl rfl rfl rfl rfl (val_ixa rfl Tryd.underlying25 Tryd.ty26 rfl rfl (j := j) (rfl) (reach_base hcv1 hx12)) ?_
        refine Gq.valg rfl rfl rfl rfl rfl (val_load rfl Tryd.ty26 rfl rfl (cell_base (i := 0) hcv1 hx12 rfl)) ?_
        refine Gq.valg rfl rfl rfl rfl rfl (val_eql rfl rfl rfl) ?_
        refine Gq.val rfl rfl rfl (val_pickT rfl rfl rfl) ?_
        refine Gq.val rfl rfl rfl (val_move rfl rfl) ?_
        refine Gq.cases (t := 51) rfl (fun h13 => ?_) (fun h13 => ?_)
        · refine Gq.valg rfl rfl rfl rfl rfl (val_move rfl rfl) ?_
          refine Gq.valg rfl rfl rfl rfl rfl (val_move rfl rfl) ?_
          obtain ⟨x14, hx14⟩ := get_of_lt (xs := pays) (k := i) (by omega)
          refine Gq.valg rfl rfl rfl rfl rfl (val_ixa rfl Tryd.underlying23 Tryd.ty33 rfl rfl (j := i) (rfl) (reach_base hs7 hx14)) ?_
          refine Gq.valg rfl rfl rfl rfl rfl (Val.cast (val_fieldAddr rfl Tryd.underlying33 rfl Tryd.ty3 rfl rfl) (v' := ptr (sB pv) (sO pv + i * 4)) rfl) ?_
          refine Gq.valg rfl rfl rfl rfl rfl (val_load rfl Tryd.ty3 rfl rfl (cell_base (i := 0) hs7 hx14 rfl)) ?_
          refine Gq.valg rfl rfl rfl rfl rfl (val_move rfl rfl) ?_
          refine Gq.valg rfl rfl rfl rfl rfl (val_move rfl rfl) ?_
          obtain ⟨x15, hx15⟩ := get_of_lt (xs := pays) (k := j) (by omega)
          refine Gq.valg rfl rfl rfl rfl rfl (val_ixa rfl Tryd.underlying23 Tryd.ty33 rfl rfl (j := j) (rfl) (reach_base hs7 hx15)) ?_
          refine Gq.valg rfl rfl rfl rfl rfl (Val.cast (val_fieldAddr rfl Tryd.underlying33 rfl Tryd.ty3 rfl rfl) (v' := ptr (sB pv) (sO pv + j * 4)) rfl) ?_
          refine Gq.valg rfl rfl rfl rfl rfl (val_load rfl Tryd.ty3 rfl rfl (cell_base (i := 0) hs7 hx15 rfl)) ?_
          refine Gq.valg rfl rfl rfl rfl rfl (val_eql rfl rfl rfl) ?_
          refine Gq.val rfl rfl rfl (val_pickT rfl rfl rfl) ?_
          refine Gq.val rfl rfl rfl (val_move rfl rfl) ?_
          refine Gq.cases (t := 64) rfl (fun h16 => ?_) (fun h16 => ?_)
          · refine Gq.valg rfl rfl rfl rfl rfl (val_move rfl rfl) ?_
            refine Gq.valg rfl rfl rfl rfl rfl (val_move rfl rfl) ?_
            refine Gq.valg rfl rfl rfl rfl rfl (val_ixa rfl Tryd.underlying23 Tryd.ty33 rfl rfl (j := i) (rfl) (reach_base hs7 hx14)) ?_
            refine Gq.valg rfl rfl rfl rfl rfl (Val.cast (val_fieldAddr rfl Tryd.underlying33 rfl Tryd.ty3 rfl rfl) (v' := ptr (sB pv) (sO pv + i * 4 + 2)) rfl) ?_
            refine Gq.valg rfl rfl rfl rfl rfl (val_load rfl Tryd.ty3 rfl rfl (cell_base (i := 2) hs7 hx14 rfl)) ?_
            refine Gq.valg rfl rfl rfl rfl rfl (val_move rfl rfl) ?_
            refine Gq.valg rfl rfl rfl rfl rfl (val_move rfl rfl) ?_
            refine Gq.valg rfl rfl rfl rfl rfl (val_ixa rfl Tryd.underlying23 Tryd.ty33 rfl rfl (j := j) (rfl) (reach_base hs7 hx15)) ?_
            refine Gq.valg rfl rfl rfl rfl rfl (Val.cast (val_fieldAddr rfl Tryd.underlying33 rfl Tryd.ty3 rfl rfl) (v' := ptr (sB pv) (sO pv + j * 4 + 2)) rfl) ?_
            refine Gq.valg rfl rfl rfl rfl rfl (val_load rfl Tryd.ty3 rfl rfl (cell_base (i := 2) hs7 hx15 rfl)) ?_
            refine Gq.valg rfl rfl rfl rfl rfl (val_eql rfl rfl rfl) ?_
            refine Gq.val rfl rfl rfl (val_pickT rfl rfl rfl) ?_
            refine Gq.done ?_
            refine Gx.thenN ?_
            refine Gx.dec rfl (fun h17 => ?_) (fun h17 => ?_)
            · refine Gx.seq ?_
              refine Gx.region ?_
              refine Gx.val rfl rfl rfl (val_assign rfl rfl) ?_
              refine Gx.done ?_
              refine Gx.thenN ?_
              refine Gx.ret ?_
              refine Gx.blkR ?_
              refine Gx.thenR ?_
              refine Gx.thenR ?_
              refine Gx.blkR ?_
              refine Gx.blkR ?_
              refine Gx.thenR ?_
              refine Gx.thenR ?_
              refine Gx.blkR ?_
              refine Gx.thenR ?_
              exfalso
              obtain rfl : x10 = 0 := by omega
              obtain rfl : x12 = 0 := by omega
              exact once (by omega) hx14 hx15 hx10 hx12 (by omega) (by omega)
            · refine Gx.skip ?_
              refine Gx.blkN ?_
              refine Gx.thenN ?_
              refine Gx.region ?_
              refine Gx.val rfl rfl rfl (val_move rfl rfl) ?_
              refine Gx.val rfl rfl rfl (val_add rfl rfl rfl (r := ((j + 1 : Nat) : Int)) (w64 (by omega) (by omega))) ?_
              refine Gx.val rfl rfl rfl (val_assign rfl rfl) ?_
              refine Gx.done ?_
              refine Gx.thenN ?_
              exact Gx.round (j + 1) (by first | omega | (dsimp only; omega)) (by first | omega | (dsimp only; omega)) ((.cons rfl (.cons rfl (.cons rfl (.cons rfl (.cons rfl (.cons rfl .nil))))))) rfl
          · refine Gq.skipg rfl rfl rfl rfl rfl rfl ?_
            refine Gq.skipg rfl rfl rfl rfl rfl rfl ?_
            refine Gq.skipg rfl rfl rfl rfl rfl rfl ?_
            refine Gq.skipg rfl rfl rfl rfl rfl rfl ?_
            refine Gq.skipg rfl rfl rfl rfl rfl rfl ?_
            refine Gq.skipg rfl rfl rfl rfl rfl rfl ?_
            refine Gq.skipg rfl rfl rfl rfl rfl rfl ?_
            refine Gq.skipg rfl rfl rfl rfl rfl rfl ?_
            refine Gq.skipg rfl rfl rfl rfl rfl rfl ?_
            refine Gq.skipg rfl rfl rfl rfl rfl rfl ?_
            refine Gq.skipg rfl rfl rfl rfl rfl rfl ?_
            refine Gq.val rfl rfl rfl (val_pickF rfl rfl rfl) ?_
            refine Gq.done ?_
            refine Gx.thenN ?_
            refine Gx.f rfl ?_
            refine Gx.skip ?_
            refine Gx.blkN ?_
            refine Gx.thenN ?_
            refine Gx.region ?_
            refine Gx.val rfl rfl rfl (val_move rfl rfl) ?_
            refine Gx.val rfl rfl rfl (val_add rfl rfl rfl (r := ((j + 1 : Nat) : Int)) (w64 (by omega) (by omega))) ?_
            refine Gx.val rfl rfl rfl (val_assign rfl rfl) ?_
            refine Gx.done ?_
            refine Gx.thenN ?_
            exact Gx.round (j + 1) (by first | omega | (dsimp only; omega)) (by first | omega | (dsimp only; omega)) ((.cons rfl (.cons rfl (.cons rfl (.cons rfl (.cons rfl (.cons rfl .nil))))))) rfl
        · refine Gq.skipg rfl rfl rfl rfl rfl rfl ?_
          refine Gq.skipg rfl rfl rfl rfl rfl rfl ?_
          refine Gq.skipg rfl rfl rfl rfl rfl rfl ?_
          refine Gq.skipg rfl rfl rfl rfl rfl rfl ?_
          refine Gq.skipg rfl rfl rfl rfl rfl rfl ?_
          refine Gq.skipg rfl rfl rfl rfl rfl rfl ?_
          refine Gq.skipg rfl rfl rfl rfl rfl rfl ?_
          refine Gq.skipg rfl rfl rfl rfl rfl rfl ?_
          refine Gq.skipg rfl rfl rfl rfl rfl rfl ?_
          refine Gq.skipg rfl rfl rfl rfl rfl rfl ?_
          refine Gq.skipg rfl rfl rfl rfl rfl rfl ?_
          refine Gq.val rfl rfl rfl (val_pickF rfl rfl rfl) ?_
          refine Gq.val rfl rfl rfl (val_move rfl rfl) ?_
          refine Gq.skipg rfl rfl rfl rfl rfl rfl ?_
          refine Gq.skipg rfl rfl rfl rfl rfl rfl ?_
          refine Gq.skipg rfl rfl rfl rfl rfl rfl ?_
          refine Gq.skipg rfl rfl rfl rfl rfl rfl ?_
          refine Gq.skipg rfl rfl rfl rfl rfl rfl ?_
          refine Gq.skipg rfl rfl rfl rfl rfl rfl ?_
          refine Gq.skipg rfl rfl rfl rfl rfl rfl ?_
          refine Gq.skipg rfl rfl rfl rfl rfl rfl ?_
          refine Gq.skipg rfl rfl rfl rfl rfl rfl ?_
          refine Gq.skipg rfl rfl rfl rfl rfl rfl ?_
          refine Gq.skipg rfl rfl rfl rfl rfl rfl ?_
          refine Gq.val rfl rfl rfl (val_pickF rfl rfl rfl) ?_
          refine Gq.done ?_
          refine Gx.thenN ?_
          refine Gx.f rfl ?_
          refine Gx.skip ?_
          refine Gx.blkN ?_
          refine Gx.thenN ?_
          refine Gx.region ?_
          refine Gx.val rfl rfl rfl (val_move rfl rfl) ?_
          refine Gx.val rfl rfl rfl (val_add rfl rfl rfl (r := ((j + 1 : Nat) : Int)) (w64 (by omega) (by omega))) ?_
          refine Gx.val rfl rfl rfl (val_assign rfl rfl) ?_
          refine Gx.done ?_
          refine Gx.thenN ?_
          exact Gx.round (j + 1) (by first | omega | (dsimp only; omega)) (by first | omega | (dsimp only; omega)) ((.cons rfl (.cons rfl (.cons rfl (.cons rfl (.cons rfl (.cons rfl .nil))))))) rfl
      · refine Gq.skipg rfl rfl rfl rfl rfl rfl ?_
        refine Gq.skipg rfl rfl rfl rfl rfl rfl ?_
        refine Gq.skipg rfl rfl rfl rfl rfl rfl ?_
        refine Gq.skipg rfl rfl rfl rfl rfl rfl ?_
        refine Gq.skipg rfl rfl rfl rfl rfl rfl ?_
        refine Gq.val rfl rfl rfl (val_pickF rfl rfl rfl) ?_
        refine Gq.val rfl rfl rfl (val_move rfl rfl) ?_
        refine Gq.skipg rfl rfl rfl rfl rfl rfl ?_
        refine Gq.skipg rfl rfl rfl rfl rfl rfl ?_
        refine Gq.skipg rfl rfl rfl rfl rfl rfl ?_
        refine Gq.skipg rfl rfl rfl rfl rfl rfl ?_
        refine Gq.skipg rfl rfl rfl rfl rfl rfl ?_
        refine Gq.skipg rfl rfl rfl rfl rfl rfl ?_
        refine Gq.skipg rfl rfl rfl rfl rfl rfl ?_
        refine Gq.skipg rfl rfl rfl rfl rfl rfl ?_
        refine Gq.skipg rfl rfl rfl rfl rfl rfl ?_
        refine Gq.skipg rfl rfl rfl rfl rfl rfl ?_
        refine Gq.skipg rfl rfl rfl rfl rfl rfl ?_
        refine Gq.val rfl rfl rfl (val_pickF rfl rfl rfl) ?_
        refine Gq.val rfl rfl rfl (val_move rfl rfl) ?_
        refine Gq.skipg rfl rfl rfl rfl rfl rfl ?_
        refine Gq.skipg rfl rfl rfl rfl rfl rfl ?_
        refine Gq.skipg rfl rfl rfl rfl rfl rfl ?_
        refine Gq.skipg rfl rfl rfl rfl rfl rfl ?_
        refine Gq.skipg rfl rfl rfl rfl rfl rfl ?_
        refine Gq.skipg rfl rfl rfl rfl rfl rfl ?_
        refine Gq.skipg rfl rfl rfl rfl rfl rfl ?_
        refine Gq.skipg rfl rfl rfl rfl rfl rfl ?_
        refine Gq.skipg rfl rfl rfl rfl rfl rfl ?_
        refine Gq.skipg rfl rfl rfl rfl rfl rfl ?_
        refine Gq.skipg rfl rfl rfl rfl rfl rfl ?_
        refine Gq.val rfl rfl rfl (val_pickF rfl rfl rfl) ?_
        refine Gq.done ?_
        refine Gx.thenN ?_
        refine Gx.f rfl ?_
        refine Gx.skip ?_
        refine Gx.blkN ?_
        refine Gx.thenN ?_
        refine Gx.region ?_
        refine Gx.val rfl rfl rfl (val_move rfl rfl) ?_
        refine Gx.val rfl rfl rfl (val_add rfl rfl rfl (r := ((j + 1 : Nat) : Int)) (w64 (by omega) (by omega))) ?_
        refine Gx.val rfl rfl rfl (val_assign rfl rfl) ?_
        refine Gx.done ?_
        refine Gx.thenN ?_
        exact Gx.round (j + 1) (by first | omega | (dsimp only; omega)) (by first | omega | (dsimp only; omega)) ((.cons rfl (.cons rfl (.cons rfl (.cons rfl (.cons rfl (.cons rfl .nil))))))) rfl
    · refine Gx.exit ?_
      refine Gx.thenE ?_
      refine Gx.thenE ?_
      refine Gx.blkE ?_
      refine Gx.blkN ?_
      refine Gx.thenN ?_
      refine Gx.region ?_
      refine Gx.val rfl rfl rfl (val_move rfl rfl) ?_
      refine Gx.val rfl rfl rfl (val_add rfl rfl rfl (r := ((i + 1 : Nat) : Int)) (w64 (by omega) (by omega))) ?_
      refine Gx.val rfl rfl rfl (val_assign rfl rfl) ?_
      refine Gx.done ?_
      refine Gx.thenN ?_
      exact Gx.round (i + 1) (by first | omega | (dsimp only; omega)) (by first | omega | (dsimp only; omega)) ((.cons rfl (.cons rfl (.cons rfl (.cons rfl (.cons rfl .nil)))))) rfl
  · refine Gx.exit ?_
    refine Gx.thenE ?_
    refine Gx.thenE ?_
    refine Gx.blkE ?_
    refine Gx.thenN ?_
    refine Gx.seq ?_
    refine Gx.region ?_
    refine Gx.val rfl rfl rfl (val_assign rfl rfl) ?_
    refine Gx.done ?_
    refine Gx.thenN ?_
    refine Gx.ret ?_
    refine Gx.ret1B hW5 Tryd.results4 rfl ?_
    rfl

theorem once_any {W : World} {mv pv : Value} {money : List Int} {pays : List Py} (hg : HG W) (hm : SlS FM 1 W mv money) (hp : SlS FP 4 W pv pays) :
    Calls Tryd.prog 4 #[mv, pv] W fun e w' => e = .returned (.bool true) ∧ Below W.heap.size W w' := by
  by_cases h : OkL money pays.length
  · exact once_yes hg hm hp h
  · exact once_no hg hm hp h
end Go.Proofs.YtbdlpomcmkojmaaDoor
