/- Mattern's law. No condition. -/
import Derived.Test.YtehcefknofcmiaaC4
namespace Go.Proofs.Ytehcefknofcmiaa
open Go.RowKit
set_option linter.unusedVariables false
set_option maxRecDepth 100000

theorem mattern_bad {W : World} {v : Value} {l : List Ev} (n i j : Int) (hs : SlS FE 3 W v l) (hok : ¬ OkE n l) :
    Calls Try.prog 7 #[.int .i64 n, v, .int .i64 i, .int .i64 j] W fun e w' => e = .returned (.bool true) ∧ Below W.heap.size W w' := by
  have hm := len_bd hs
  refine calls_pure (Gx.enter (l := []) Try.func7 rfl Try.ntmps7 rfl (Sat.start W) ?_)
  refine Gx.know (m' := [(0, .int .i64 n), (1, v), (2, .int .i64 i), (3, .int .i64 j)]) (.cons rfl (.cons rfl (.cons rfl (.cons rfl .nil)))) ?_
  refine Gx.seq ?_
  refine Gx.region ?_
  refine Gx.val rfl rfl rfl (val_assign rfl rfl) ?_
  refine Gx.done ?_
  refine Gx.thenN ?_
  refine Gx.seq ?_
  refine Gx.seq ?_
  refine Gx.region ?_
  refine Gx.val rfl rfl rfl (val_move rfl rfl) ?_
  refine Gx.val rfl rfl rfl (val_move rfl rfl) ?_
  refine Gx.val rfl rfl rfl (val_call (vs := [.int .i64 n, v]) rfl Try.fn9 rfl (fun w H => events_no n (hs.below H.below) hok)) ?_
  refine Gx.val rfl rfl rfl (Val.cast (val_not rfl rfl) (v' := .bool true) rfl) ?_
  refine Gx.done ?_
  refine Gx.thenN ?_
  refine Gx.t rfl ?_
  refine Gx.seq ?_
  refine Gx.region ?_
  refine Gx.val rfl rfl rfl (val_move rfl rfl) ?_
  refine Gx.val rfl rfl rfl (val_move rfl rfl) ?_
  refine Gx.eff rfl rfl rfl (eff_callE (vs := [.int .i64 n, v]) rfl Try.fn10 rfl (R := fun u => ∃ c : Int, u = .int .i64 c ∧ c ≠ 0) (fun w H => check_no n (hs.below H.below) hok)) ?_
  rintro _ _ ⟨⟨c1, rfl, hc1⟩, rfl⟩
  refine Gx.val rfl rfl rfl (val_neq rfl rfl rfl) ?_
  refine Gx.val rfl rfl rfl (val_assign rfl rfl) ?_
  refine Gx.done ?_
  refine Gx.thenN ?_
  refine Gx.ret ?_
  refine Gx.thenR ?_
  refine Gx.ret1 Try.results7 rfl ?_
  exact congrArg Value.bool (decide_eq_true (by assumption))

theorem mattern_out {W : World} {v : Value} {l : List Ev} (n : Nat) (i j : Int) (hs : SlS FE 3 W v l) (hok : OkE n l) (hns : ¬ (0 ≤ i ∧ i < l.length ∧ 0 ≤ j ∧ j < l.length)) (hin : insI l.length [i, j] = false) :
    Calls Try.prog 7 #[.int .i64 ((n : Nat) : Int), v, .int .i64 i, .int .i64 j] W fun e w' => e = .returned (.bool true) ∧ Below W.heap.size W w' := by
  have hm := len_bd hs
  refine calls_pure (Gx.enter (l := []) Try.func7 rfl Try.ntmps7 rfl (Sat.start W) ?_)
  refine Gx.know (m' := [(0, .int .i64 ((n : Nat) : Int)), (1, v), (2, .int .i64 i), (3, .int .i64 j)]) (.cons rfl (.cons rfl (.cons rfl (.cons rfl .nil)))) ?_
  refine Gx.seq ?_
  refine Gx.region ?_
  refine Gx.val rfl rfl rfl (val_assign rfl rfl) ?_
  refine Gx.done ?_
  refine Gx.thenN ?_
  refine Gx.seq ?_
  refine Gx.seq ?_
  refine Gx.region ?_
  refine Gx.val rfl rfl rfl (val_move rfl rfl) ?_
  refine Gx.val rfl rfl rfl (val_move rfl rfl) ?_
  refine Gx.val rfl rfl rfl (val_call (vs := [.int .i64 ((n : Nat) : Int), v]) rfl Try.fn9 rfl (fun w H => events_ok ((n : Nat) : Int) (hs.below H.below) hok)) ?_
  refine Gx.val rfl rfl rfl (Val.cast (val_not rfl rfl) (v' := .bool false) rfl) ?_
  refine Gx.done ?_
  refine Gx.thenN ?_
  refine Gx.f rfl ?_
  refine Gx.skip ?_
  refine Gx.thenN ?_
  refine Gx.seq ?_
  refine Gx.region ?_
  refine Gx.val rfl rfl rfl (val_move rfl rfl) ?_
  refine Gx.val rfl rfl rfl (val_move rfl rfl) ?_
  refine Gx.callB rfl rfl rfl (vs := [.int .i64 ((n : Nat) : Int), v]) rfl Try.fn11 rfl (R := fun u w => ∃ ov, u = .tuple #[ov, .int .i64 0] ∧ Vs w ov (vecL l n l.length)) (fun w H => vecs_ok n (hs.below H.below) hok) ?_
  rintro _ W3 ⟨ov1, rfl, ps2, hps2, hvps2, hrps2⟩ H4
  have hW5 := H4.below
  have hs6 := hs.below H4.below
  have hlps2 : ps2.length = l.length := by rw [← List.length_map (f := Vc.xs), hps2, vecL_len]
  refine Gx.val rfl rfl rfl (val_move rfl rfl) ?_
  refine Gx.val rfl rfl rfl (val_extract rfl rfl rfl) ?_
  refine Gx.val rfl rfl rfl (val_extract rfl rfl rfl) ?_
  refine Gx.val rfl rfl rfl (val_assign rfl rfl) ?_
  refine Gx.val rfl rfl rfl (val_assign rfl rfl) ?_
  refine Gx.done ?_
  refine Gx.thenN ?_
  refine Gx.seq ?_
  refine Gx.region ?_
  refine Gx.val rfl rfl rfl (val_move rfl rfl) ?_
  refine Gx.val rfl rfl rfl (val_move rfl rfl) ?_
  refine Gx.val rfl rfl rfl (val_move rfl rfl) ?_
  refine Gx.val rfl rfl rfl (val_move rfl rfl) ?_
  refine Gx.eff rfl rfl rfl (eff_callE (vs := [.int .i64 ((n : Nat) : Int), v, .int .i64 i, .int .i64 j]) rfl Try.fn16 rfl (R := fun u => ∃ b c, u = .tuple #[.bool b, .int .i64 c] ∧ c ≠ 0) (fun w H => before_out ((n : Nat) : Int) i j (hs6.below H.below) hok (by assumption))) ?_
  rintro _ _ ⟨⟨b7, c8, rfl, hc8⟩, rfl⟩
  refine Gx.val rfl rfl rfl (val_move rfl rfl) ?_
  refine Gx.val rfl rfl rfl (val_extract rfl rfl rfl) ?_
  refine Gx.val rfl rfl rfl (val_extract rfl rfl rfl) ?_
  refine Gx.val rfl rfl rfl (val_assign rfl rfl) ?_
  refine Gx.val rfl rfl rfl (val_assign rfl rfl) ?_
  refine Gx.done ?_
  refine Gx.thenN ?_
  refine Gx.seq ?_
  refine Gx.seq ?_
  refine Gx.region ?_
  refine Gx.val rfl rfl rfl (val_move rfl rfl) ?_
  refine Gx.val rfl rfl rfl (Val.cast (val_neq rfl rfl rfl) (v' := .bool false) rfl) ?_
  refine Gx.val rfl rfl rfl (val_move rfl rfl) ?_
  refine Gx.valg rfl rfl rfl rfl rfl (val_move rfl rfl) ?_
  refine Gx.valg rfl rfl rfl rfl rfl (val_len rfl Try.underlying26 rfl (len_base hvps2)) ?_
  refine Gx.valg rfl rfl rfl rfl rfl (val_move rfl rfl) ?_
  refine Gx.valg rfl rfl rfl rfl rfl (val_len rfl Try.underlying22 rfl (len_base hs6)) ?_
  refine Gx.valg rfl rfl rfl rfl rfl (val_neq rfl rfl rfl) ?_
  refine Gx.val rfl rfl rfl (val_pickF rfl rfl rfl) ?_
  refine Gx.done ?_
  refine Gx.thenN ?_
  refine Gx.decF rfl (by omega) ?_
  refine Gx.skip ?_
  refine Gx.thenN ?_
  refine Gx.seq ?_
  refine Gx.seq ?_
  refine Gx.region ?_
  refine Gx.val rfl rfl rfl (val_move rfl rfl) ?_
  refine Gx.val rfl rfl rfl (val_len rfl Try.underlying22 rfl (len_base hs6)) ?_
  refine Gx.val rfl rfl rfl (val_move rfl rfl) ?_
  refine Gx.val rfl rfl rfl (val_move rfl rfl) ?_
  refine Gx.eff rfl rfl rfl (eff_buildSlice rfl (qs := [(0, .int .i64 i), (1, .int .i64 j)]) rfl rfl (cs := #[.int .i64 i, .int .i64 j]) (vs := [.int .i64 i, .int .i64 j]) (E := 3) rfl (fun w => by first | (go_simp; done) | (go_simp; rfl))) ?_
  rintro _ _ ⟨b9, rfl, rfl⟩
  refine Gx.val rfl rfl rfl (val_call (vs := [.int .i64 ((l.length : Nat) : Int), .slice (some ⟨b9, 0, none⟩) 2 2]) rfl Try.fn14 rfl (fun w H => inside_b ((l.length : Nat) : Int) (recs_sz (xs := [i, j]) (H.at_ (k := 0) rfl) rfl))) ?_
  refine Gx.val rfl rfl rfl (val_not rfl rfl) ?_
  refine Gx.done ?_
  refine Gx.thenN ?_
  refine Gx.boolT rfl (by rw [hin]; rfl) ?_
  refine Gx.seq ?_
  refine Gx.region ?_
  refine Gx.val rfl rfl rfl (val_move rfl rfl) ?_
  refine Gx.val rfl rfl rfl (val_neq rfl rfl rfl) ?_
  refine Gx.val rfl rfl rfl (val_assign rfl rfl) ?_
  refine Gx.done ?_
  refine Gx.thenN ?_
  refine Gx.ret ?_
  refine Gx.thenR ?_
  refine Gx.ret1B hW5 Try.results7 rfl ?_
  exact congrArg Value.bool (decide_eq_true (by assumption))

theorem mat_eq {n : Nat} {l : List Ev} {i j : Nat} {r s : List Int} (hok : OkE n l) (hi : i < l.length) (hj : j < l.length) (hij : i ≠ j) (hr : (vecL l n l.length)[i]? = some r) (hs : (vecL l n l.length)[j]? = some s) : (befB n l i j == leqB r s) = true := by
  have e1 := vecL_each l n _ _ (List.mem_of_getElem? hr)
  have e2 := vecL_each l n _ _ (List.mem_of_getElem? hs)
  have : befB n l i j = leqB r s := by
    rw [Bool.eq_iff_iff, mattern hok hi hj hij]
    unfold leqB V atV
    rw [decide_eq_true_iff, getD_of hr, getD_of hs, e1, e2]
    exact ⟨fun h => ⟨rfl, h⟩, fun h => h.2⟩
  rw [this]; simp
theorem mattern_in {W : World} {v : Value} {l : List Ev} (n i j : Nat) (hs : SlS FE 3 W v l) (hok : OkE n l) (hi : i < l.length) (hj : j < l.length) :
    Calls Try.prog 7 #[.int .i64 ((n : Nat) : Int), v, .int .i64 ((i : Nat) : Int), .int .i64 ((j : Nat) : Int)] W fun e w' => e = .returned (.bool true) ∧ Below W.heap.size W w' := by
  have hm := len_bd hs
  refine calls_pure (Gx.enter (l := []) Try.func7 rfl Try.ntmps7 rfl (Sat.start W) ?_)
  refine Gx.know (m' := [(0, .int .i64 ((n : Nat) : Int)), (1, v), (2, .int .i64 ((i : Nat) : Int)), (3, .int .i64 ((j : Nat) : Int))]) (.cons rfl (.cons rfl (.cons rfl (.cons rfl .nil)))) ?_
  refine Gx.seq ?_
  refine Gx.region ?_
  refine Gx.val rfl rfl rfl (val_assign rfl rfl) ?_
  refine Gx.done ?_
  refine Gx.thenN ?_
  refine Gx.seq ?_
  refine Gx.seq ?_
  refine Gx.region ?_
  refine Gx.val rfl rfl rfl (val_move rfl rfl) ?_
  refine Gx.val rfl rfl rfl (val_move rfl rfl) ?_
  refine Gx.val rfl rfl rfl (val_call (vs := [.int .i64 ((n : Nat) : Int), v]) rfl Try.fn9 rfl (fun w H => events_ok ((n : Nat) : Int) (hs.below H.below) hok)) ?_
  refine Gx.val rfl rfl rfl (Val.cast (val_not rfl rfl) (v' := .bool false) rfl) ?_
  refine Gx.done ?_
  refine Gx.thenN ?_
  refine Gx.f rfl ?_
  refine Gx.skip ?_
  refine Gx.thenN ?_
  refine Gx.seq ?_
  refine Gx.region ?_
  refine Gx.val rfl rfl rfl (val_move rfl rfl) ?_
  refine Gx.val rfl rfl rfl (val_move rfl rfl) ?_
  refine Gx.callB rfl rfl rfl (vs := [.int .i64 ((n : Nat) : Int), v]) rfl Try.fn11 rfl (R := fun u w => ∃ ov, u = .tuple #[ov, .int .i64 0] ∧ Vs w ov (vecL l n l.length)) (fun w H => vecs_ok n (hs.below H.below) hok) ?_
  rintro _ W3 ⟨ov1, rfl, ps2, hps2, hvps2, hrps2⟩ H4
  have hW5 := H4.below
  have hs6 := hs.below H4.below
  have hlps2 : ps2.length = l.length := by rw [← List.length_map (f := Vc.xs), hps2, vecL_len]
  refine Gx.val rfl rfl rfl (val_move rfl rfl) ?_
  refine Gx.val rfl rfl rfl (val_extract rfl rfl rfl) ?_
  refine Gx.val rfl rfl rfl (val_extract rfl rfl rfl) ?_
  refine Gx.val rfl rfl rfl (val_assign rfl rfl) ?_
  refine Gx.val rfl rfl rfl (val_assign rfl rfl) ?_
  refine Gx.done ?_
  refine Gx.thenN ?_
  refine Gx.seq ?_
  refine Gx.region ?_
  refine Gx.val rfl rfl rfl (val_move rfl rfl) ?_
  refine Gx.val rfl rfl rfl (val_move rfl rfl) ?_
  refine Gx.val rfl rfl rfl (val_move rfl rfl) ?_
  refine Gx.val rfl rfl rfl (val_move rfl rfl) ?_
  refine Gx.val rfl rfl rfl (val_call (vs := [.int .i64 ((n : Nat) : Int), v, .int .i64 ((i : Nat) : Int), .int .i64 ((j : Nat) : Int)]) rfl Try.fn16 rfl (fun w H => before_ok n i j (hs6.below H.below) hok (by assumption) (by assumption))) ?_
  refine Gx.val rfl rfl rfl (val_move rfl rfl) ?_
  refine Gx.val rfl rfl rfl (val_extract rfl rfl rfl) ?_
  refine Gx.val rfl rfl rfl (val_extract rfl rfl rfl) ?_
  refine Gx.val rfl rfl rfl (val_assign rfl rfl) ?_
  refine Gx.val rfl rfl rfl (val_assign rfl rfl) ?_
  refine Gx.done ?_
  refine Gx.thenN ?_
  refine Gx.seq ?_
  refine Gx.seq ?_
  refine Gx.region ?_
  refine Gx.val rfl rfl rfl (val_move rfl rfl) ?_
  refine Gx.val rfl rfl rfl (Val.cast (val_neq rfl rfl rfl) (v' := .bool false) rfl) ?_
  refine Gx.val rfl rfl rfl (val_move rfl rfl) ?_
  refine Gx.valg rfl rfl rfl rfl rfl (val_move rfl rfl) ?_
  refine Gx.valg rfl rfl rfl rfl rfl (val_len rfl Try.underlying26 rfl (len_base hvps2)) ?_
  refine Gx.valg rfl rfl rfl rfl rfl (val_move rfl rfl) ?_
  refine Gx.valg rfl rfl rfl rfl rfl (val_len rfl Try.underlying22 rfl (len_base hs6)) ?_
  refine Gx.valg rfl rfl rfl rfl rfl (val_neq rfl rfl rfl) ?_
  refine Gx.val rfl rfl rfl (val_pickF rfl rfl rfl) ?_
  refine Gx.done ?_
  refine Gx.thenN ?_
  refine Gx.decF rfl (by omega) ?_
  refine Gx.skip ?_
  refine Gx.thenN ?_
  refine Gx.seq ?_
  refine Gx.seq ?_
  refine Gx.region ?_
  refine Gx.val rfl rfl rfl (val_move rfl rfl) ?_
  refine Gx.val rfl rfl rfl (val_len rfl Try.underlying22 rfl (len_base hs6)) ?_
  refine Gx.val rfl rfl rfl (val_move rfl rfl) ?_
  refine Gx.val rfl rfl rfl (val_move rfl rfl) ?_
  refine Gx.eff rfl rfl rfl (eff_buildSlice rfl (qs := [(0, .int .i64 ((i : Nat) : Int)), (1, .int .i64 ((j : Nat) : Int))]) rfl rfl (cs := #[.int .i64 ((i : Nat) : Int), .int .i64 ((j : Nat) : Int)]) (vs := [.int .i64 ((i : Nat) : Int), .int .i64 ((j : Nat) : Int)]) (E := 3) rfl (fun w => by first | (go_simp; done) | (go_simp; rfl))) ?_
  rintro _ _ ⟨b7, rfl, rfl⟩
  refine Gx.val rfl rfl rfl (val_call (vs := [.int .i64 ((l.length : Nat) : Int), .slice (some ⟨b7, 0, none⟩) 2 2]) rfl Try.fn14 rfl (fun w H => inside_b ((l.length : Nat) : Int) (recs_sz (xs := [((i : Nat) : Int), ((j : Nat) : Int)]) (H.at_ (k := 0) rfl) rfl))) ?_
  refine Gx.val rfl rfl rfl (val_not rfl rfl) ?_
  refine Gx.done ?_
  refine Gx.thenN ?_
  refine Gx.boolF rfl (by rw [insI_yes (by simp; omega)]; rfl) ?_
  refine Gx.skip ?_
  refine Gx.thenN ?_
  refine Gx.seq ?_
  refine Gx.seq ?_
  refine Gx.region ?_
  refine Gx.val rfl rfl rfl (val_move rfl rfl) ?_
  refine Gx.val rfl rfl rfl (val_move rfl rfl) ?_
  refine Gx.val rfl rfl rfl (val_eql rfl rfl rfl) ?_
  refine Gx.done ?_
  refine Gx.thenN ?_
  refine Gx.dec rfl (fun h8 => ?_) (fun h8 => ?_)
  · refine Gx.seq ?_
    refine Gx.region ?_
    refine Gx.val rfl rfl rfl (val_move rfl rfl) ?_
    refine Gx.val rfl rfl rfl (val_not rfl rfl) ?_
    refine Gx.val rfl rfl rfl (val_move rfl rfl) ?_
    refine Gx.slot (t := 58) (v := .bool true) (look_boolT rfl (by rw [befB_same (by omega)]; rfl)) ?_
    refine Gx.valg rfl rfl rfl rfl rfl (val_move rfl rfl) ?_
    refine Gx.valg rfl rfl rfl rfl rfl (val_move rfl rfl) ?_
    obtain ⟨x9, hx9⟩ := get_of_lt (xs := ps2) (k := i) (by omega)
    refine Gx.valg rfl rfl rfl rfl rfl (val_ixa rfl Try.underlying26 Try.ty32 rfl rfl (j := i) (rfl) (reach_base hvps2 hx9)) ?_
    refine Gx.valg rfl rfl rfl rfl rfl (val_load rfl Try.ty32 rfl rfl (cell_base (i := 0) hvps2 hx9 rfl)) ?_
    have hr10 := hrps2 _ (List.mem_of_getElem? hx9)
    refine Gx.valg rfl rfl rfl rfl rfl (val_len rfl Try.underlying32 rfl (len_base hr10)) ?_
    refine Gx.valg rfl rfl rfl rfl rfl (val_move rfl rfl) ?_
    refine Gx.valg rfl rfl rfl rfl rfl (val_eql rfl rfl rfl) ?_
    refine Gx.val rfl rfl rfl (val_pickT rfl rfl rfl) ?_
    refine Gx.val rfl rfl rfl (val_assign rfl rfl) ?_
    refine Gx.done ?_
    refine Gx.thenN ?_
    refine Gx.ret ?_
    refine Gx.thenR ?_
    refine Gx.ret1B hW5 Try.results7 rfl ?_
    exact congrArg Value.bool (decide_eq_true (by have q := vecL_each l n _ _ (List.mem_of_getElem? (show (vecL l n l.length)[i]? = some x9.xs by rw [← hps2, List.getElem?_map, hx9]; rfl)); omega))
  · refine Gx.skip ?_
    refine Gx.thenN ?_
    refine Gx.seq ?_
    refine Gx.regionQ Try.mixed (by kernel_rfl) ?_
    refine Gq.val rfl rfl rfl (val_move rfl rfl) ?_
    refine Gq.val rfl rfl rfl (Val.cast (val_eql rfl rfl rfl) (v' := .bool true) rfl) ?_
    refine Gq.val rfl rfl rfl (val_move rfl rfl) ?_
    refine Gq.valg rfl rfl rfl rfl rfl (val_move rfl rfl) ?_
    refine Gq.valg rfl rfl rfl rfl rfl (val_move rfl rfl) ?_
    refine Gq.valg rfl rfl rfl rfl rfl (val_move rfl rfl) ?_
    obtain ⟨x11, hx11⟩ := get_of_lt (xs := ps2) (k := i) (by omega)
    refine Gq.valg rfl rfl rfl rfl rfl (val_ixa rfl Try.underlying26 Try.ty32 rfl rfl (j := i) (rfl) (reach_base hvps2 hx11)) ?_
    refine Gq.valg rfl rfl rfl rfl rfl (val_load rfl Try.ty32 rfl rfl (cell_base (i := 0) hvps2 hx11 rfl)) ?_
    have hr12 := hrps2 _ (List.mem_of_getElem? hx11)
    refine Gq.valg rfl rfl rfl rfl rfl (val_move rfl rfl) ?_
    refine Gq.valg rfl rfl rfl rfl rfl (val_move rfl rfl) ?_
    obtain ⟨x13, hx13⟩ := get_of_lt (xs := ps2) (k := j) (by omega)
    refine Gq.valg rfl rfl rfl rfl rfl (val_ixa rfl Try.underlying26 Try.ty32 rfl rfl (j := j) (rfl) (reach_base hvps2 hx13)) ?_
    refine Gq.valg rfl rfl rfl rfl rfl (val_load rfl Try.ty32 rfl rfl (cell_base (i := 0) hvps2 hx13 rfl)) ?_
    have hr14 := hrps2 _ (List.mem_of_getElem? hx13)
    refine Gq.valg rfl rfl rfl rfl rfl (val_call (vs := [.slice x11.a x11.xs.length x11.c, .slice x13.a x13.xs.length x13.c]) rfl Try.fn17 rfl (fun w H => leq_any (hr12.below H.below) (hr14.below H.below))) ?_
    refine Gq.valg rfl rfl rfl rfl rfl (val_eqlB Try.underlying4 rfl rfl rfl) ?_
    refine Gq.val rfl rfl rfl (val_pickT rfl rfl rfl) ?_
    refine Gq.val rfl rfl rfl (val_assign rfl rfl) ?_
    refine Gq.done ?_
    refine Gx.thenN ?_
    refine Gx.ret ?_
    refine Gx.ret1B hW5 Try.results7 rfl ?_
    exact congrArg Value.bool (mat_eq hok hi hj (by omega) (show (vecL l n l.length)[i]? = some x11.xs by rw [← hps2, List.getElem?_map, hx11]; rfl) (show (vecL l n l.length)[j]? = some x13.xs by rw [← hps2, List.getElem?_map, hx13]; rfl))

theorem mattern_any (n i j : Int) (v : Value) (l : List Ev) (W : World) (hs : SlS FE 3 W v l) : Calls Try.prog 7 #[.int .i64 n, v, .int .i64 i, .int .i64 j] W fun e w' => e = .returned (.bool true) ∧ Below W.heap.size W w' := by
  by_cases hok : OkE n l
  · obtain ⟨m, rfl⟩ := Int.eq_ofNat_of_zero_le (show 0 ≤ n by have := hok.low; omega)
    by_cases hin : 0 ≤ i ∧ i < l.length ∧ 0 ≤ j ∧ j < l.length
    · obtain ⟨a, rfl⟩ := Int.eq_ofNat_of_zero_le hin.1
      obtain ⟨b, rfl⟩ := Int.eq_ofNat_of_zero_le hin.2.2.1
      exact mattern_in m a b hs hok (by omega) (by omega)
    · refine mattern_out m i j hs hok hin ?_
      cases e : insI l.length [i, j]
      · rfl
      · have := insI_iff.1 e; simp at this; omega
  · exact mattern_bad n i j hs hok

end Go.Proofs.Ytehcefknofcmiaa
