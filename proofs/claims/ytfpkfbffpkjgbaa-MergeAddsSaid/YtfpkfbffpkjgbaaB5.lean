/- What is put in while it is dropped is in behind merges; what is dropped alone is not. The walk. No condition. -/
import Derived.Test.YtfpkfbffpkjgbaaM4
import Derived.Test.YtfpkfbffpkjgbaaW2
namespace Go.Proofs.Ytfpkfbffpkjgbaa
open Go.RowKit
set_option linter.unusedVariables false
set_option linter.unusedSimpArgs false
set_option maxRecDepth 100000

theorem adds_no {W : World} {it : Int} {dr : Bool} {sv : Value} {xs : List Sy} (hs : SlS FY 5 W sv xs) (hbad : it < 0 ∨ 4 ≤ it ∨ 120 < (xs.length : Int) + 12 ∨ 58 < (xs.length : Int)) :
    Calls Try.prog 8 #[sv, .int .i64 it, .bool dr] W fun e w' => e = .returned (.bool true) ∧ Below W.heap.size W w' := by
  have hm9 := sls_bd hs
  refine calls_pure (Gx.enter (l := []) Try.func8 rfl Try.ntmps8 rfl (Sat.start W) ?_)
  refine Gx.know (m' := [(0, sv), (1, .int .i64 it), (2, .bool dr)]) (.cons rfl (.cons rfl (.cons rfl .nil))) ?_
  refine Gx.seq ?_
  refine Gx.region ?_
  refine Gx.val rfl rfl rfl (val_assign rfl rfl) ?_
  refine Gx.done ?_
  refine Gx.thenN ?_
  refine Gx.seq ?_
  refine Gx.seq ?_
  refine Gx.region ?_
  refine Gx.val rfl rfl rfl (val_move rfl rfl) ?_
  refine Gx.val rfl rfl rfl (val_lss rfl rfl rfl) ?_
  refine Gx.val rfl rfl rfl (val_move rfl rfl) ?_
  refine Gx.cases (t := 16) rfl (fun h1 => ?_) (fun h1 => ?_)
  · refine Gx.skipg rfl rfl rfl rfl rfl rfl ?_
    refine Gx.skipg rfl rfl rfl rfl rfl rfl ?_
    refine Gx.val rfl rfl rfl (val_pickT rfl rfl rfl) ?_
    refine Gx.val rfl rfl rfl (val_move rfl rfl) ?_
    refine Gx.skipg rfl rfl rfl rfl rfl rfl ?_
    refine Gx.skipg rfl rfl rfl rfl rfl rfl ?_
    refine Gx.skipg rfl rfl rfl rfl rfl rfl ?_
    refine Gx.skipg rfl rfl rfl rfl rfl rfl ?_
    refine Gx.val rfl rfl rfl (val_pickT rfl rfl rfl) ?_
    refine Gx.val rfl rfl rfl (val_move rfl rfl) ?_
    refine Gx.skipg rfl rfl rfl rfl rfl rfl ?_
    refine Gx.skipg rfl rfl rfl rfl rfl rfl ?_
    refine Gx.skipg rfl rfl rfl rfl rfl rfl ?_
    refine Gx.val rfl rfl rfl (val_pickT rfl rfl rfl) ?_
    refine Gx.done ?_
    refine Gx.thenN ?_
    refine Gx.t rfl ?_
    refine Gx.seq ?_
    refine Gx.region ?_
    refine Gx.val rfl rfl rfl (val_assign rfl rfl) ?_
    refine Gx.done ?_
    refine Gx.thenN ?_
    refine Gx.ret ?_
    refine Gx.thenR ?_
    refine Gx.ret1 Try.results8 rfl ?_
    rfl
  refine Gx.valg rfl rfl rfl rfl rfl (val_move rfl rfl) ?_
  refine Gx.valg rfl rfl rfl rfl rfl (val_geq rfl rfl rfl) ?_
  refine Gx.val rfl rfl rfl (val_pickF rfl rfl rfl) ?_
  refine Gx.val rfl rfl rfl (val_move rfl rfl) ?_
  refine Gx.cases (t := 20) rfl (fun h2 => ?_) (fun h2 => ?_)
  · refine Gx.skipg rfl rfl rfl rfl rfl rfl ?_
    refine Gx.skipg rfl rfl rfl rfl rfl rfl ?_
    refine Gx.skipg rfl rfl rfl rfl rfl rfl ?_
    refine Gx.skipg rfl rfl rfl rfl rfl rfl ?_
    refine Gx.val rfl rfl rfl (val_pickT rfl rfl rfl) ?_
    refine Gx.val rfl rfl rfl (val_move rfl rfl) ?_
    refine Gx.skipg rfl rfl rfl rfl rfl rfl ?_
    refine Gx.skipg rfl rfl rfl rfl rfl rfl ?_
    refine Gx.skipg rfl rfl rfl rfl rfl rfl ?_
    refine Gx.val rfl rfl rfl (val_pickT rfl rfl rfl) ?_
    refine Gx.done ?_
    refine Gx.thenN ?_
    refine Gx.t rfl ?_
    refine Gx.seq ?_
    refine Gx.region ?_
    refine Gx.val rfl rfl rfl (val_assign rfl rfl) ?_
    refine Gx.done ?_
    refine Gx.thenN ?_
    refine Gx.ret ?_
    refine Gx.thenR ?_
    refine Gx.ret1 Try.results8 rfl ?_
    rfl
  refine Gx.valg rfl rfl rfl rfl rfl (val_move rfl rfl) ?_
  refine Gx.valg rfl rfl rfl rfl rfl (val_len rfl Try.underlying34 rfl (len_base hs)) ?_
  refine Gx.valg rfl rfl rfl rfl rfl (val_add rfl rfl rfl (r := ((xs.length + 12 : Nat) : Int)) (w64 (by omega) (by omega))) ?_
  refine Gx.valg rfl rfl rfl rfl rfl (val_gtr rfl rfl rfl) ?_
  refine Gx.val rfl rfl rfl (val_pickF rfl rfl rfl) ?_
  refine Gx.val rfl rfl rfl (val_move rfl rfl) ?_
  refine Gx.cases (t := 26) rfl (fun h3 => ?_) (fun h3 => ?_)
  · refine Gx.skipg rfl rfl rfl rfl rfl rfl ?_
    refine Gx.skipg rfl rfl rfl rfl rfl rfl ?_
    refine Gx.skipg rfl rfl rfl rfl rfl rfl ?_
    refine Gx.val rfl rfl rfl (val_pickT rfl rfl rfl) ?_
    refine Gx.done ?_
    refine Gx.thenN ?_
    refine Gx.t rfl ?_
    refine Gx.seq ?_
    refine Gx.region ?_
    refine Gx.val rfl rfl rfl (val_assign rfl rfl) ?_
    refine Gx.done ?_
    refine Gx.thenN ?_
    refine Gx.ret ?_
    refine Gx.thenR ?_
    refine Gx.ret1 Try.results8 rfl ?_
    rfl
  refine Gx.valg rfl rfl rfl rfl rfl (val_move rfl rfl) ?_
  refine Gx.valg rfl rfl rfl rfl rfl (val_len rfl Try.underlying34 rfl (len_base hs)) ?_
  refine Gx.valg rfl rfl rfl rfl rfl (val_gtr rfl rfl rfl) ?_
  refine Gx.val rfl rfl rfl (val_pickF rfl rfl rfl) ?_
  refine Gx.done ?_
  refine Gx.thenN ?_
  refine Gx.dec rfl (fun h4 => ?_) (fun h4 => ?_)
  · refine Gx.seq ?_
    refine Gx.region ?_
    refine Gx.val rfl rfl rfl (val_assign rfl rfl) ?_
    refine Gx.done ?_
    refine Gx.thenN ?_
    refine Gx.ret ?_
    refine Gx.thenR ?_
    refine Gx.ret1 Try.results8 rfl ?_
    rfl
  exfalso; omega

theorem adds_yes {W : World} {it : Int} {dr : Bool} {sv : Value} {xs : List Sy} (hs : SlS FY 5 W sv xs) (hit : 0 ≤ it ∧ it < 4) (hl : xs.length ≤ 58) :
    Calls Try.prog 8 #[sv, .int .i64 it, .bool dr] W fun e w' => e = .returned (.bool true) ∧ Below W.heap.size W w' := by
  have hm9 := sls_bd hs
  have htl : (tms 2 2).length ≤ 8 := tms_len 2 2
  have hL1 : (xs ++ tms 2 2).length = xs.length + (tms 2 2).length := List.length_append
  have haL : (addL it dr).length ≤ 1 := by unfold addL; split <;> simp
  have hLL : (xs ++ tms 2 2 ++ addL it dr).length = xs.length + (tms 2 2).length + (addL it dr).length := by rw [List.length_append, hL1]
  have hAL : (xs ++ tms 2 2 ++ addL it dr ++ [dropS it]).length = xs.length + (tms 2 2).length + (addL it dr).length + 1 := by rw [List.length_append, hLL]; rfl
  have hAT : ((xs ++ tms 2 2 ++ addL it dr ++ [dropS it]) ++ tms 2 2).length = xs.length + (tms 2 2).length + (addL it dr).length + 1 + (tms 2 2).length := by rw [List.length_append, hAL]
  have samef : ∀ a ∈ stM 2 (ms0 2) ((xs ++ tms 2 2 ++ addL it dr ++ [dropS it]) ++ tms 2 2), ∀ b ∈ stM 2 (ms0 2) ((xs ++ tms 2 2 ++ addL it dr ++ [dropS it]) ++ tms 2 2), a = b := by
    obtain ⟨G2, hI2⟩ := InvM.run (xs ++ tms 2 2 ++ addL it dr ++ [dropS it]) (InvM.start (n := 2) (by omega)) (Int.le_refl 0)
    rw [stM_app _ (tms 2 2)]
    refine hI2.meets ?_
    have h1 : adds (addL it dr) ≤ 1 := Nat.le_trans (adds_len _) haL
    have h2 : adds [dropS it] = 0 := rfl
    have h3 := adds_len xs
    rw [adds_app, adds_app, adds_app, adds_tms, h2]; omega
  refine calls_pure (Gx.enter (l := []) Try.func8 rfl Try.ntmps8 rfl (Sat.start W) ?_)
  refine Gx.know (m' := [(0, sv), (1, .int .i64 it), (2, .bool dr)]) (.cons rfl (.cons rfl (.cons rfl .nil))) ?_
  refine Gx.seq ?_
  refine Gx.region ?_
  refine Gx.val rfl rfl rfl (val_assign rfl rfl) ?_
  refine Gx.done ?_
  refine Gx.thenN ?_
  refine Gx.seq ?_
  refine Gx.seq ?_
  refine Gx.region ?_
  refine Gx.val rfl rfl rfl (val_move rfl rfl) ?_
  refine Gx.val rfl rfl rfl (val_lss rfl rfl rfl) ?_
  refine Gx.val rfl rfl rfl (val_move rfl rfl) ?_
  refine Gx.slot (t := 16) (v := .bool false) (look_decF rfl (by omega)) ?_
  refine Gx.valg rfl rfl rfl rfl rfl (val_move rfl rfl) ?_
  refine Gx.valg rfl rfl rfl rfl rfl (val_geq rfl rfl rfl) ?_
  refine Gx.val rfl rfl rfl (val_pickF rfl rfl rfl) ?_
  refine Gx.val rfl rfl rfl (val_move rfl rfl) ?_
  refine Gx.slot (t := 20) (v := .bool false) (look_decF rfl (by omega)) ?_
  refine Gx.valg rfl rfl rfl rfl rfl (val_move rfl rfl) ?_
  refine Gx.valg rfl rfl rfl rfl rfl (val_len rfl Try.underlying34 rfl (len_base hs)) ?_
  refine Gx.valg rfl rfl rfl rfl rfl (val_add rfl rfl rfl (r := ((xs.length + 12 : Nat) : Int)) (w64 (by omega) (by omega))) ?_
  refine Gx.valg rfl rfl rfl rfl rfl (val_gtr rfl rfl rfl) ?_
  refine Gx.val rfl rfl rfl (val_pickF rfl rfl rfl) ?_
  refine Gx.val rfl rfl rfl (val_move rfl rfl) ?_
  refine Gx.slot (t := 26) (v := .bool false) (look_decF rfl (by omega)) ?_
  refine Gx.valg rfl rfl rfl rfl rfl (val_move rfl rfl) ?_
  refine Gx.valg rfl rfl rfl rfl rfl (val_len rfl Try.underlying34 rfl (len_base hs)) ?_
  refine Gx.valg rfl rfl rfl rfl rfl (val_gtr rfl rfl rfl) ?_
  refine Gx.val rfl rfl rfl (val_pickF rfl rfl rfl) ?_
  refine Gx.done ?_
  refine Gx.thenN ?_
  refine Gx.decF rfl (by omega) ?_
  refine Gx.skip ?_
  refine Gx.thenN ?_
  refine Gx.seq ?_
  refine Gx.region ?_
  refine Gx.val rfl rfl rfl (val_move rfl rfl) ?_
  refine Gx.eff rfl rfl rfl (eff_callN (vs := [.int .i64 2, sv, .int .i64 2]) rfl Try.fn13 rfl (fun w H => synced_any (n := 2) (hs.below H.below) (by omega) (by omega))) ?_
  rintro sy1 _ ⟨_, ⟨hisy1, rfl⟩, rfl⟩
  refine Gx.norm (l' := [Hp.own FY 5 sy1 (xs ++ tms 2 2)]) rfl ?_
  refine Gx.val rfl rfl rfl (val_assign rfl rfl) ?_
  refine Gx.done ?_
  refine Gx.thenN ?_
  refine Gx.meet (ι := Value) (fun ξ => (IsS ξ)) (fun ξ => [(0, sv), (1, .int .i64 it), (2, .bool dr), (7, ξ)]) (fun ξ => [Hp.own FY 5 ξ (xs ++ tms 2 2 ++ addL it dr)]) ?_ ?_
  · refine Gx.seq ?_
    refine Gx.region ?_
    refine Gx.val rfl rfl rfl (val_move rfl rfl) ?_
    refine Gx.val rfl rfl rfl (val_not rfl rfl) ?_
    refine Gx.done ?_
    refine Gx.thenN ?_
    refine Gx.bool rfl (fun h2 => ?_) (fun h2 => ?_)
    · refine Gx.region ?_
      refine Gx.val rfl rfl rfl (val_move rfl rfl) ?_
      refine Gx.val rfl rfl rfl (val_move rfl rfl) ?_
      refine Gx.val rfl rfl rfl (val_build rfl (qs := [(0, .int .i64 3), (1, .int .i64 0), (3, .int .i64 it)]) rfl rfl (fun w => by go_simp) (v := .agg #[.int .i64 3, .int .i64 0, .int .i64 0, .int .i64 it, .int .i64 0])) ?_
      refine Gx.eff rfl rfl rfl (eff_buildSlice rfl (qs := [(0, .agg #[.int .i64 3, .int .i64 0, .int .i64 0, .int .i64 it, .int .i64 0])]) rfl rfl (cs := #[.int .i64 3, .int .i64 0, .int .i64 0, .int .i64 it, .int .i64 0]) (vs := [.int .i64 3, .int .i64 0, .int .i64 0, .int .i64 it, .int .i64 0]) (E := 42) rfl (fun w => by first | (go_simp; done) | (go_simp; rfl))) ?_
      rintro _ _ ⟨b3, rfl, rfl⟩
      refine Gx.eff rfl rfl rfl (eff_push (r := (addS it)) rfl Try.eY FY_len FY_one rfl rfl (k := 0) rfl rfl (k' := 0) rfl (by rw [List.length_append]; omega) (by rw [List.length_append]; omega)) ?_
      rintro v4 _ ⟨hiv4, rfl⟩
      refine Gx.norm (l' := [Hp.own FY 5 v4 ((xs ++ tms 2 2) ++ [(addS it)])]) rfl ?_
      refine Gx.val rfl rfl rfl (val_assign rfl rfl) ?_
      refine Gx.done ?_
      refine Gx.thenN ?_
      refine Gx.norm (l' := [Hp.own FY 5 v4 (xs ++ tms 2 2 ++ addL it dr)]) (by rw [addL, if_neg (by simpa using h2)] <;> rfl) ?_
      exact Gx.fam v4 (hiv4) ((.cons rfl (.cons rfl (.cons rfl (.cons rfl .nil))))) rfl
    refine Gx.skip ?_
    refine Gx.thenN ?_
    refine Gx.norm (l' := [Hp.own FY 5 sy1 (xs ++ tms 2 2 ++ addL it dr)]) (by rw [addL, if_pos (by simpa using h2), List.append_nil] <;> rfl) ?_
    exact Gx.fam sy1 (hisy1) ((.cons rfl (.cons rfl (.cons rfl (.cons rfl .nil))))) rfl
  rintro v2 hiv2
  refine Gx.know (m' := [(0, sv), (1, .int .i64 it), (2, .bool dr), (7, v2)]) (.cons rfl (.cons rfl (.cons rfl (.cons rfl .nil)))) (Gx.norm (l' := [Hp.own FY 5 v2 (xs ++ tms 2 2 ++ addL it dr)]) rfl ?_)
  refine Gx.seq ?_
  refine Gx.region ?_
  refine Gx.val rfl rfl rfl (val_move rfl rfl) ?_
  refine Gx.val rfl rfl rfl (val_move rfl rfl) ?_
  refine Gx.val rfl rfl rfl (val_build rfl (qs := [(0, .int .i64 4), (1, .int .i64 1), (3, .int .i64 it)]) rfl rfl (fun w => by go_simp) (v := .agg #[.int .i64 4, .int .i64 1, .int .i64 0, .int .i64 it, .int .i64 0])) ?_
  refine Gx.eff rfl rfl rfl (eff_buildSlice rfl (qs := [(0, .agg #[.int .i64 4, .int .i64 1, .int .i64 0, .int .i64 it, .int .i64 0])]) rfl rfl (cs := #[.int .i64 4, .int .i64 1, .int .i64 0, .int .i64 it, .int .i64 0]) (vs := [.int .i64 4, .int .i64 1, .int .i64 0, .int .i64 it, .int .i64 0]) (E := 42) rfl (fun w => by first | (go_simp; done) | (go_simp; rfl))) ?_
  rintro _ _ ⟨b5, rfl, rfl⟩
  refine Gx.eff rfl rfl rfl (eff_push (r := (dropS it)) rfl Try.eY FY_len FY_one rfl rfl (k := 0) rfl rfl (k' := 0) rfl (by rw [hLL]; omega) (by rw [hLL]; omega)) ?_
  rintro v6 _ ⟨hiv6, rfl⟩
  refine Gx.norm (l' := [Hp.own FY 5 v6 ((xs ++ tms 2 2 ++ addL it dr) ++ [(dropS it)])]) rfl ?_
  refine Gx.val rfl rfl rfl (val_assign rfl rfl) ?_
  refine Gx.done ?_
  refine Gx.thenN ?_
  refine Gx.seq ?_
  refine Gx.region ?_
  refine Gx.val rfl rfl rfl (val_move rfl rfl) ?_
  refine Gx.eff rfl rfl rfl (eff_callN (vs := [.int .i64 2, v6, .int .i64 2]) rfl Try.fn13 rfl (fun w H => synced_any (n := 2) ((H.at_ (k := 0) rfl).sls (by omega)) (by omega) (by omega))) ?_
  rintro sy7 _ ⟨_, ⟨hisy7, rfl⟩, rfl⟩
  refine Gx.norm (l' := [Hp.own FY 5 sy7 (((xs ++ tms 2 2 ++ addL it dr) ++ [(dropS it)]) ++ tms 2 2), Hp.own FY 5 v6 ((xs ++ tms 2 2 ++ addL it dr) ++ [(dropS it)])]) rfl ?_
  refine Gx.callB rfl rfl rfl (vs := [.int .i64 2, sy7]) rfl Try.fn12 rfl (R := (fun v w' => ∃ (av cv : Value) (ms : List Cm), v = .tuple #[av, cv, .int .i64 0] ∧ ms.map Cm.c = stM 2 (ms0 2) (((xs ++ tms 2 2 ++ addL it dr) ++ [(dropS it)]) ++ tms 2 2) ∧ SlS FC 6 w' av ms ∧ SlS FE 1 w' cv (codesM 2 (ms0 2) (((xs ++ tms 2 2 ++ addL it dr) ++ [(dropS it)]) ++ tms 2 2)) ∧ ∀ m ∈ ms, RowsS w' m)) (fun w H => play_ok (n := 2) (by omega) (by omega) ((H.at_ (k := 0) rfl).sls (by omega)) (by omega)) ?_
  rintro _ W8 ⟨av1, cv1, ms1, rfl, hms1, hsa1, hsc1, hr1⟩ H9
  have hW10 := H9.below
  have hs11 := hs.below H9.below
  have hs12 := (H9.at_ (k := 0) rfl).sls (by first | omega | (simp; done) | (simp; omega))
  have hs13 := (H9.at_ (k := 1) rfl).sls (by first | omega | (simp; done) | (simp; omega))
  refine Gx.val rfl rfl rfl (val_move rfl rfl) ?_
  refine Gx.val rfl rfl rfl (val_extract rfl rfl rfl) ?_
  refine Gx.val rfl rfl rfl (val_extract rfl rfl rfl) ?_
  refine Gx.val rfl rfl rfl (val_extract rfl rfl rfl) ?_
  refine Gx.val rfl rfl rfl (val_assign rfl rfl) ?_
  refine Gx.val rfl rfl rfl (val_assign rfl rfl) ?_
  refine Gx.val rfl rfl rfl (val_assign rfl rfl) ?_
  refine Gx.done ?_
  refine Gx.thenN ?_
  refine Gx.seq ?_
  refine Gx.seq ?_
  obtain ⟨hm1l, hlaw⟩ := adds_law (xs := xs) (it := it) (dr := dr) (by omega) (by omega)
  have hbd := BdM.run ((xs ++ tms 2 2 ++ addL it dr ++ [dropS it]) ++ tms 2 2) (BdM.start (n := 2) (by omega)) (Int.le_refl 0)
  rw [← hms1] at hm1l hlaw hbd
  rw [List.length_map] at hm1l
  have hcl1 : (codesM 2 (ms0 2) ((xs ++ tms 2 2 ++ addL it dr ++ [dropS it]) ++ tms 2 2)).length = (xs ++ tms 2 2 ++ addL it dr ++ [dropS it]).length + (tms 2 2).length := by rw [codesM_len, List.length_append]
  refine Gx.region ?_
  refine Gx.val rfl rfl rfl (val_move rfl rfl) ?_
  refine Gx.val rfl rfl rfl (Val.cast (val_neq rfl rfl rfl) (v' := .bool false) rfl) ?_
  refine Gx.val rfl rfl rfl (val_move rfl rfl) ?_
  refine Gx.valg rfl rfl rfl rfl rfl (val_move rfl rfl) ?_
  refine Gx.valg rfl rfl rfl rfl rfl (val_len rfl Try.underlying35 rfl (len_base hsa1)) ?_
  refine Gx.valg rfl rfl rfl rfl rfl (val_neq rfl rfl rfl) ?_
  refine Gx.val rfl rfl rfl (val_pickF rfl rfl rfl) ?_
  refine Gx.val rfl rfl rfl (val_move rfl rfl) ?_
  refine Gx.slot (t := 59) (v := .bool false) (look_decF rfl (by omega)) ?_
  refine Gx.valg rfl rfl rfl rfl rfl (val_move rfl rfl) ?_
  refine Gx.valg rfl rfl rfl rfl rfl (val_len rfl Try.underlying36 rfl (len_base hsc1)) ?_
  refine Gx.valg rfl rfl rfl rfl rfl (val_move rfl rfl) ?_
  refine Gx.valg rfl rfl rfl rfl rfl (val_len rfl Try.underlying34 rfl (len_base hs13)) ?_
  refine Gx.valg rfl rfl rfl rfl rfl (val_lss rfl rfl rfl) ?_
  refine Gx.val rfl rfl rfl (val_pickF rfl rfl rfl) ?_
  refine Gx.done ?_
  refine Gx.thenN ?_
  refine Gx.decF rfl (by omega) ?_
  refine Gx.skip ?_
  refine Gx.thenN ?_
  refine Gx.seq ?_
  obtain ⟨mx0, hmx0⟩ := get_of_lt (xs := ms1) (k := 0) (by omega)
  have hrmx0 := hr1 mx0 (List.mem_of_getElem? hmx0)
  have hbmx0 := hbd.all mx0.c (List.mem_map_of_mem (List.mem_of_getElem? hmx0))
  have hlamx0 := hlaw mx0.c (List.mem_map_of_mem (List.mem_of_getElem? hmx0))
  have halmx0 := hbmx0.al
  have hglmx0 := hbmx0.gl
  have hilmx0 := Nat.le_trans (cmL_len (itf mx0.c.go mx0.c.ad) (itf mx0.c.go mx0.c.ad).length) (itf_len mx0.c.go mx0.c.ad)
  refine Gx.region ?_
  refine Gx.val rfl rfl rfl (val_move rfl rfl) ?_
  refine Gx.val rfl rfl rfl (val_ixa rfl Try.underlying35 Try.ty27 rfl rfl (j := 0) (rfl) (reach_base hsa1 hmx0)) ?_
  refine Gx.val rfl rfl rfl (Val.cast (val_loadA rfl Try.ty27 rfl rfl rfl (cells_base (sz := 6) (j := 0) hsa1 hmx0)) (v' := .agg #[.slice mx0.p.a mx0.p.n mx0.p.c, .int .i64 mx0.c.la.n, .int .i64 mx0.c.la.who, .int .i64 mx0.c.la.val, .slice mx0.q.a mx0.q.n mx0.q.c, .slice mx0.r.a mx0.r.n mx0.r.c]) rfl) ?_
  refine Gx.eff rfl rfl rfl (eff_callN (vs := [.int .i64 2, .agg #[.slice mx0.p.a mx0.p.n mx0.p.c, .int .i64 mx0.c.la.n, .int .i64 mx0.c.la.who, .int .i64 mx0.c.la.val, .slice mx0.q.a mx0.q.n mx0.q.c, .slice mx0.r.a mx0.r.n mx0.r.c]]) rfl Try.fn15 rfl (fun w H => items_any (s := mx0.c.la) (hrmx0.p.below H.below) (hrmx0.q.below H.below) (hrmx0.r.below H.below) (good_of (n := 2) hbmx0 (by decide) (by decide)) hbmx0.gu (by omega) (by omega))) ?_
  rintro _ _ ⟨_, ⟨iv14, hiiv14, rfl, rfl⟩, rfl⟩
  refine Gx.norm (l' := [Hp.own FI 1 iv14 (cmL (itf mx0.c.go mx0.c.ad) (itf mx0.c.go mx0.c.ad).length)]) rfl ?_
  refine Gx.val rfl rfl rfl (val_move rfl rfl) ?_
  refine Gx.val rfl rfl rfl (val_extract rfl rfl rfl) ?_
  refine Gx.val rfl rfl rfl (val_extract rfl rfl rfl) ?_
  refine Gx.val rfl rfl rfl (val_assign rfl rfl) ?_
  refine Gx.val rfl rfl rfl (val_assign rfl rfl) ?_
  refine Gx.done ?_
  refine Gx.thenN ?_
  refine Gx.seq ?_
  obtain ⟨my, hmy⟩ := get_of_lt (xs := ms1) (k := 1) (by omega)
  have hrmy := hr1 my (List.mem_of_getElem? hmy)
  have hbmy := hbd.all my.c (List.mem_map_of_mem (List.mem_of_getElem? hmy))
  have hlamy := hlaw my.c (List.mem_map_of_mem (List.mem_of_getElem? hmy))
  have halmy := hbmy.al
  have hglmy := hbmy.gl
  have hilmy := Nat.le_trans (cmL_len (itf my.c.go my.c.ad) (itf my.c.go my.c.ad).length) (itf_len my.c.go my.c.ad)
  have hsame : my.c = mx0.c := samef my.c (by rw [← hms1]; exact List.mem_map_of_mem (List.mem_of_getElem? hmy)) mx0.c (by rw [← hms1]; exact List.mem_map_of_mem (List.mem_of_getElem? hmx0))
  refine Gx.region ?_
  refine Gx.val rfl rfl rfl (val_move rfl rfl) ?_
  refine Gx.val rfl rfl rfl (val_ixa rfl Try.underlying35 Try.ty27 rfl rfl (j := 1) (rfl) (reach_base hsa1 hmy)) ?_
  refine Gx.val rfl rfl rfl (Val.cast (val_loadA rfl Try.ty27 rfl rfl rfl (cells_base (sz := 6) (j := 1) hsa1 hmy)) (v' := .agg #[.slice my.p.a my.p.n my.p.c, .int .i64 my.c.la.n, .int .i64 my.c.la.who, .int .i64 my.c.la.val, .slice my.q.a my.q.n my.q.c, .slice my.r.a my.r.n my.r.c]) rfl) ?_
  refine Gx.eff rfl rfl rfl (eff_callN (vs := [.int .i64 2, .agg #[.slice my.p.a my.p.n my.p.c, .int .i64 my.c.la.n, .int .i64 my.c.la.who, .int .i64 my.c.la.val, .slice my.q.a my.q.n my.q.c, .slice my.r.a my.r.n my.r.c]]) rfl Try.fn15 rfl (fun w H => items_any (s := my.c.la) (hrmy.p.below H.below) (hrmy.q.below H.below) (hrmy.r.below H.below) (good_of (n := 2) hbmy (by decide) (by decide)) hbmy.gu (by omega) (by omega))) ?_
  rintro _ _ ⟨_, ⟨iv15, hiiv15, rfl, rfl⟩, rfl⟩
  refine Gx.norm (l' := [Hp.own FI 1 iv15 (cmL (itf my.c.go my.c.ad) (itf my.c.go my.c.ad).length), Hp.own FI 1 iv14 (cmL (itf mx0.c.go mx0.c.ad) (itf mx0.c.go mx0.c.ad).length)]) rfl ?_
  refine Gx.val rfl rfl rfl (val_move rfl rfl) ?_
  refine Gx.val rfl rfl rfl (val_extract rfl rfl rfl) ?_
  refine Gx.val rfl rfl rfl (val_extract rfl rfl rfl) ?_
  refine Gx.val rfl rfl rfl (val_assign rfl rfl) ?_
  refine Gx.val rfl rfl rfl (val_assign rfl rfl) ?_
  refine Gx.done ?_
  refine Gx.thenN ?_
  refine Gx.seq ?_
  refine Gx.region ?_
  refine Gx.val rfl rfl rfl (val_move rfl rfl) ?_
  refine Gx.val rfl rfl rfl (Val.cast (val_eql rfl rfl rfl) (v' := .bool true) rfl) ?_
  refine Gx.val rfl rfl rfl (val_move rfl rfl) ?_
  refine Gx.valg rfl rfl rfl rfl rfl (val_move rfl rfl) ?_
  refine Gx.valg rfl rfl rfl rfl rfl (Val.cast (val_eql rfl rfl rfl) (v' := .bool true) rfl) ?_
  refine Gx.val rfl rfl rfl (val_pickT rfl rfl rfl) ?_
  refine Gx.val rfl rfl rfl (val_move rfl rfl) ?_
  refine Gx.valg rfl rfl rfl rfl rfl (val_move rfl rfl) ?_
  refine Gx.valg rfl rfl rfl rfl rfl (val_move rfl rfl) ?_
  refine Gx.valg rfl rfl rfl rfl rfl (val_call (vs := [iv14, iv15]) rfl Try.fn16 rfl (fun w H => ints_any ((H.at_ (k := 1) rfl).sls (by omega)) ((H.at_ (k := 0) rfl).sls (by omega)))) ?_
  refine Gx.val rfl rfl rfl (val_pickT rfl rfl rfl) ?_
  refine Gx.val rfl rfl rfl (val_move rfl rfl) ?_
  refine Gx.slot (t := 91) (v := .bool true) (look_decT rfl (by rw [hsame])) ?_
  refine Gx.valg rfl rfl rfl rfl rfl (val_move rfl rfl) ?_
  refine Gx.valg rfl rfl rfl rfl rfl (val_move rfl rfl) ?_
  refine Gx.effg rfl rfl rfl rfl rfl (eff_callE (vs := [iv14, .int .i64 it]) rfl Try.fn17 rfl (R := (fun v => ∃ c : Int, v = .int .i64 c ∧ (0 ≤ c ↔ it ∈ (cmL (itf mx0.c.go mx0.c.ad) (itf mx0.c.go mx0.c.ad).length)))) (fun w H => position_any (a := it) ((H.at_ (k := 1) rfl).sls (by omega)))) ?_
  rintro _ _ ⟨⟨pc, rfl, hpc⟩, rfl⟩
  refine Gx.valg rfl rfl rfl rfl rfl (val_geq rfl rfl rfl) ?_
  refine Gx.valg rfl rfl rfl rfl rfl (val_move rfl rfl) ?_
  refine Gx.valg rfl rfl rfl rfl rfl (val_not rfl rfl) ?_
  refine Gx.valg rfl rfl rfl rfl rfl (val_eqlB Try.underlying4 rfl rfl rfl) ?_
  refine Gx.val rfl rfl rfl (val_pickT rfl rfl rfl) ?_
  refine Gx.val rfl rfl rfl (val_assign rfl rfl) ?_
  refine Gx.done ?_
  refine Gx.thenN ?_
  refine Gx.ret ?_
  refine Gx.ret1B hW10 Try.results8 rfl ?_
  exact congrArg Value.bool (by
    rw [cm_mem, itf_mem, hlamx0] at hpc
    cases dr with
    | true => rw [show decide (0 ≤ pc) = false from decide_eq_false (fun q => by have := hpc.1 q; cases this)]; rfl
    | false => rw [decide_eq_true (hpc.2 rfl)]; rfl)

theorem adds_any {W : World} {it : Int} {dr : Bool} {sv : Value} {xs : List Sy} (hs : SlS FY 5 W sv xs) :
    Calls Try.prog 8 #[sv, .int .i64 it, .bool dr] W fun e w' => e = .returned (.bool true) ∧ Below W.heap.size W w' := by
  by_cases hbad : it < 0 ∨ 4 ≤ it ∨ 120 < (xs.length : Int) + 12 ∨ 58 < (xs.length : Int)
  · exact adds_no hs hbad
  · exact adds_yes hs (by omega) (by omega)
end Go.Proofs.Ytfpkfbffpkjgbaa
