/- Of one process the later one knows more. No condition. -/
import Derived.Test.YtehcefknofcmiaaC5
namespace Go.Proofs.Ytehcefknofcmiaa
open Go.RowKit
set_option linter.unusedVariables false
set_option maxRecDepth 100000

theorem scalars_no {W : World} {v : Value} {l : List Ev} (n : Int) (h : SlS FE 3 W v l) (hok : ¬ OkE n l) : Calls Try.prog 13 #[.int .i64 n, v] W fun e w' => ∃ u, e = .returned u ∧ (∃ (sv : Value) (c : Int), u = .tuple #[sv, .int .i64 c] ∧ c ≠ 0) ∧ Below W.heap.size W w' := by
  refine (scalars_any n h).mono ?_
  rintro e w' ⟨⟨sv, c, rfl, hc, hs⟩, hl⟩
  exact ⟨_, rfl, ⟨sv, c, rfl, fun e => hok (hc.1 e)⟩, hl⟩
theorem vecs_no {W : World} {v : Value} {l : List Ev} (n : Int) (h : SlS FE 3 W v l) (hok : ¬ OkE n l) : Calls Try.prog 11 #[.int .i64 n, v] W fun e w' => ∃ u, e = .returned u ∧ (∃ (sv : Value) (c : Int), u = .tuple #[sv, .int .i64 c] ∧ c ≠ 0) ∧ Below W.heap.size W w' := by
  refine (vectorsF_any n h).mono ?_
  rintro e w' ⟨⟨sv, c, rfl, hc, hs⟩, hl⟩
  exact ⟨_, rfl, ⟨sv, c, rfl, fun e => hok (hc.1 e)⟩, hl⟩
theorem rise_bad {W : World} {v : Value} {l : List Ev} (n i j : Int) (hs : SlS FE 3 W v l) (hok : ¬ OkE n l) :
    Calls Try.prog 4 #[.int .i64 n, v, .int .i64 i, .int .i64 j] W fun e w' => e = .returned (.bool true) ∧ Below W.heap.size W w' := by
  have hm := len_bd hs
  refine calls_pure (Gx.enter (l := []) Try.func4 rfl Try.ntmps4 rfl (Sat.start W) ?_)
  refine Gx.know (m' := [(0, .int .i64 n), (1, v), (2, .int .i64 i), (3, .int .i64 j)]) (.cons rfl (.cons rfl (.cons rfl (.cons rfl .nil)))) ?_
  refine Gx.seq ?_
  refine Gx.region ?_
  refine Gx.val rfl rfl rfl (val_assign rfl rfl) ?_
  refine Gx.done ?_
  refine Gx.thenN ?_
  refine Gx.seq ?_
  refine Gx.region ?_
  refine Gx.val rfl rfl rfl (val_move rfl rfl) ?_
  refine Gx.val rfl rfl rfl (val_move rfl rfl) ?_
  refine Gx.eff rfl rfl rfl (eff_callE (vs := [.int .i64 n, v]) rfl Try.fn13 rfl (R := fun u => ∃ (sv : Value) (c : Int), u = .tuple #[sv, .int .i64 c] ∧ c ≠ 0) (fun w H => scalars_no n (hs.below H.below) hok)) ?_
  rintro _ _ ⟨⟨s1, c2, rfl, hc2⟩, rfl⟩
  refine Gx.val rfl rfl rfl (val_move rfl rfl) ?_
  refine Gx.val rfl rfl rfl (val_extract rfl rfl rfl) ?_
  refine Gx.val rfl rfl rfl (val_extract rfl rfl rfl) ?_
  refine Gx.val rfl rfl rfl (val_assign rfl rfl) ?_
  refine Gx.val rfl rfl rfl (val_assign rfl rfl) ?_
  refine Gx.done ?_
  refine Gx.thenN ?_
  refine Gx.seq ?_
  refine Gx.region ?_
  refine Gx.val rfl rfl rfl (val_move rfl rfl) ?_
  refine Gx.val rfl rfl rfl (val_move rfl rfl) ?_
  refine Gx.eff rfl rfl rfl (eff_callE (vs := [.int .i64 n, v]) rfl Try.fn11 rfl (R := fun u => ∃ (sv : Value) (c : Int), u = .tuple #[sv, .int .i64 c] ∧ c ≠ 0) (fun w H => vecs_no n (hs.below H.below) hok)) ?_
  rintro _ _ ⟨⟨s3, c4, rfl, hc4⟩, rfl⟩
  refine Gx.val rfl rfl rfl (val_move rfl rfl) ?_
  refine Gx.val rfl rfl rfl (val_extract rfl rfl rfl) ?_
  refine Gx.val rfl rfl rfl (val_extract rfl rfl rfl) ?_
  refine Gx.val rfl rfl rfl (val_assign rfl rfl) ?_
  refine Gx.val rfl rfl rfl (val_assign rfl rfl) ?_
  refine Gx.done ?_
  refine Gx.thenN ?_
  refine Gx.seq ?_
  refine Gx.seq ?_
  refine Gx.region ?_
  refine Gx.val rfl rfl rfl (val_move rfl rfl) ?_
  refine Gx.val rfl rfl rfl (val_move rfl rfl) ?_
  refine Gx.val rfl rfl rfl (val_call (vs := [.int .i64 n, v]) rfl Try.fn9 rfl (fun w H => events_no n (hs.below H.below) hok)) ?_
  refine Gx.val rfl rfl rfl (Val.cast (val_not rfl rfl) (v' := .bool true) rfl) ?_
  refine Gx.done ?_
  refine Gx.thenN ?_
  refine Gx.t rfl ?_
  refine Gx.seq ?_
  refine Gx.region ?_
  refine Gx.val rfl rfl rfl (val_move rfl rfl) ?_
  refine Gx.val rfl rfl rfl (val_neq rfl rfl rfl) ?_
  refine Gx.val rfl rfl rfl (val_move rfl rfl) ?_
  refine Gx.slot (t := 31) (v := .bool true) (look_decT rfl (by assumption)) ?_
  refine Gx.valg rfl rfl rfl rfl rfl (val_move rfl rfl) ?_
  refine Gx.valg rfl rfl rfl rfl rfl (val_neq rfl rfl rfl) ?_
  refine Gx.val rfl rfl rfl (val_pickT rfl rfl rfl) ?_
  refine Gx.val rfl rfl rfl (val_assign rfl rfl) ?_
  refine Gx.done ?_
  refine Gx.thenN ?_
  refine Gx.ret ?_
  refine Gx.thenR ?_
  refine Gx.ret1 Try.results4 rfl ?_
  exact congrArg Value.bool (decide_eq_true (by assumption))

theorem rise_out {W : World} {v : Value} {l : List Ev} (n : Nat) (i j : Int) (hs : SlS FE 3 W v l) (hok : OkE n l) (hin : insI l.length [i, j] = false) :
    Calls Try.prog 4 #[.int .i64 ((n : Nat) : Int), v, .int .i64 i, .int .i64 j] W fun e w' => e = .returned (.bool true) ∧ Below W.heap.size W w' := by
  have hm := len_bd hs
  have hsl := scalL_len l l.length
  refine calls_pure (Gx.enter (l := []) Try.func4 rfl Try.ntmps4 rfl (Sat.start W) ?_)
  refine Gx.know (m' := [(0, .int .i64 ((n : Nat) : Int)), (1, v), (2, .int .i64 i), (3, .int .i64 j)]) (.cons rfl (.cons rfl (.cons rfl (.cons rfl .nil)))) ?_
  refine Gx.seq ?_
  refine Gx.region ?_
  refine Gx.val rfl rfl rfl (val_assign rfl rfl) ?_
  refine Gx.done ?_
  refine Gx.thenN ?_
  refine Gx.seq ?_
  refine Gx.region ?_
  refine Gx.val rfl rfl rfl (val_move rfl rfl) ?_
  refine Gx.val rfl rfl rfl (val_move rfl rfl) ?_
  refine Gx.callB rfl rfl rfl (vs := [.int .i64 ((n : Nat) : Int), v]) rfl Try.fn13 rfl (R := fun u w => ∃ sv, u = .tuple #[sv, .int .i64 0] ∧ SlS SZ 1 w sv (scalL l l.length)) (fun w H => scalars_ok ((n : Nat) : Int) (hs.below H.below) hok) ?_
  rintro _ W1 ⟨sv, rfl, hsv⟩ H2
  have hW3 := H2.below
  have hs4 := hs.below H2.below
  refine Gx.val rfl rfl rfl (val_move rfl rfl) ?_
  refine Gx.val rfl rfl rfl (val_extract rfl rfl rfl) ?_
  refine Gx.val rfl rfl rfl (val_extract rfl rfl rfl) ?_
  refine Gx.val rfl rfl rfl (val_assign rfl rfl) ?_
  refine Gx.val rfl rfl rfl (val_assign rfl rfl) ?_
  refine Gx.done ?_
  refine Gx.thenN ?_
  refine Gx.seq ?_
  refine Gx.region ?_
  refine Gx.val rfl rfl rfl (val_move rfl rfl) ?_
  refine Gx.val rfl rfl rfl (val_move rfl rfl) ?_
  refine Gx.callB rfl rfl rfl (vs := [.int .i64 ((n : Nat) : Int), v]) rfl Try.fn11 rfl (R := fun u w => ∃ ov, u = .tuple #[ov, .int .i64 0] ∧ Vs w ov (vecL l n l.length)) (fun w H => vecs_ok n (hs4.below H.below) hok) ?_
  rintro _ W7 ⟨ov5, rfl, ps6, hps6, hvps6, hrps6⟩ H8
  have hW9 := hW3.trans (H8.below.mono hW3.size)
  have hs10 := hs4.below H8.below
  have hs11 := hsv.below H8.below
  have hlps6 : ps6.length = l.length := by rw [← List.length_map (f := Vc.xs), hps6, vecL_len]
  refine Gx.val rfl rfl rfl (val_move rfl rfl) ?_
  refine Gx.val rfl rfl rfl (val_extract rfl rfl rfl) ?_
  refine Gx.val rfl rfl rfl (val_extract rfl rfl rfl) ?_
  refine Gx.val rfl rfl rfl (val_assign rfl rfl) ?_
  refine Gx.val rfl rfl rfl (val_assign rfl rfl) ?_
  refine Gx.done ?_
  refine Gx.thenN ?_
  refine Gx.seq ?_
  refine Gx.seq ?_
  refine Gx.region ?_
  refine Gx.val rfl rfl rfl (val_move rfl rfl) ?_
  refine Gx.val rfl rfl rfl (val_move rfl rfl) ?_
  refine Gx.val rfl rfl rfl (val_call (vs := [.int .i64 ((n : Nat) : Int), v]) rfl Try.fn9 rfl (fun w H => events_ok ((n : Nat) : Int) (hs10.below H.below) hok)) ?_
  refine Gx.val rfl rfl rfl (Val.cast (val_not rfl rfl) (v' := .bool false) rfl) ?_
  refine Gx.done ?_
  refine Gx.thenN ?_
  refine Gx.f rfl ?_
  refine Gx.skip ?_
  refine Gx.thenN ?_
  refine Gx.seq ?_
  refine Gx.seq ?_
  refine Gx.region ?_
  refine Gx.val rfl rfl rfl (val_move rfl rfl) ?_
  refine Gx.val rfl rfl rfl (Val.cast (val_neq rfl rfl rfl) (v' := .bool false) rfl) ?_
  refine Gx.val rfl rfl rfl (val_move rfl rfl) ?_
  refine Gx.valg rfl rfl rfl rfl rfl (val_move rfl rfl) ?_
  refine Gx.valg rfl rfl rfl rfl rfl (Val.cast (val_neq rfl rfl rfl) (v' := .bool false) rfl) ?_
  refine Gx.val rfl rfl rfl (val_pickF rfl rfl rfl) ?_
  refine Gx.val rfl rfl rfl (val_move rfl rfl) ?_
  refine Gx.valg rfl rfl rfl rfl rfl (val_move rfl rfl) ?_
  refine Gx.valg rfl rfl rfl rfl rfl (val_len rfl Try.underlying32 rfl (len_base hs11)) ?_
  refine Gx.valg rfl rfl rfl rfl rfl (val_move rfl rfl) ?_
  refine Gx.valg rfl rfl rfl rfl rfl (val_len rfl Try.underlying22 rfl (len_base hs10)) ?_
  refine Gx.valg rfl rfl rfl rfl rfl (val_neq rfl rfl rfl) ?_
  refine Gx.val rfl rfl rfl (val_pickF rfl rfl rfl) ?_
  refine Gx.val rfl rfl rfl (val_move rfl rfl) ?_
  refine Gx.slot (t := 48) (v := .bool false) (look_decF rfl (by omega)) ?_
  refine Gx.valg rfl rfl rfl rfl rfl (val_move rfl rfl) ?_
  refine Gx.valg rfl rfl rfl rfl rfl (val_len rfl Try.underlying26 rfl (len_base hvps6)) ?_
  refine Gx.valg rfl rfl rfl rfl rfl (val_move rfl rfl) ?_
  refine Gx.valg rfl rfl rfl rfl rfl (val_len rfl Try.underlying22 rfl (len_base hs10)) ?_
  refine Gx.valg rfl rfl rfl rfl rfl (val_neq rfl rfl rfl) ?_
  refine Gx.val rfl rfl rfl (val_pickF rfl rfl rfl) ?_
  refine Gx.done ?_
  refine Gx.thenN ?_
  refine Gx.decF rfl (by omega) ?_
  refine Gx.skip ?_
  refine Gx.thenN ?_
  refine Gx.seq ?_
  refine Gx.seq ?_
  refine Gx.regionO (fun j => j == 4) 42 [0, 1, 2, 3, 4, 5, 6, 7, 8, 9, 10, 11, 12, 13, 14, 15, 16, 17, 18, 19, 20, 21, 22, 23, 24, 25, 26, 27, 28, 29, 30, 31, 32, 33, 34, 35, 36, 37, 38, 39, 40, 41] (fun us => match us with | [] => [] | u1 :: _ => [Hp.rec_ (sB u1) [.int .i64 i, .int .i64 j]]) Try.mixed (by kernel_rfl) rfl ?_
  refine Gw.val rfl rfl rfl rfl rfl (fun us => val_move rfl rfl) ?_
  refine Gw.val rfl rfl rfl rfl rfl (fun us => val_len rfl Try.underlying22 rfl (len_base hs10)) ?_
  refine Gw.val rfl rfl rfl rfl rfl (fun us => val_move rfl rfl) ?_
  refine Gw.val rfl rfl rfl rfl rfl (fun us => val_move rfl rfl) ?_
  refine Gw.chg rfl rfl rfl rfl rfl (fun v => ∃ b12, v = .slice (some ⟨b12, 0, none⟩) 2 2) (Eff.mono (eff_buildSlice rfl (qs := [(0, .int .i64 i), (1, .int .i64 j)]) rfl rfl (cs := #[.int .i64 i, .int .i64 j]) (vs := [.int .i64 i, .int .i64 j]) (E := 3) rfl (fun w => by first | (go_simp; done) | (go_simp; rfl))) (by rintro _ _ ⟨b12, rfl, rfl⟩; exact ⟨⟨b12, rfl⟩, rfl⟩)) ?_
  rintro _ ⟨b12, rfl⟩
  refine Gw.val0 rfl rfl rfl (by kernel_rfl) rfl rfl (val_call (vs := [.int .i64 ((l.length : Nat) : Int), .slice (some ⟨b12, 0, none⟩) 2 2]) rfl Try.fn14 rfl (fun w H => inside_b ((l.length : Nat) : Int) (recs_sz (xs := [i, j]) (H.at_ (k := 0) rfl) rfl))) ?_
  refine Gw.val rfl rfl rfl rfl rfl (fun us => val_not rfl rfl) ?_
  refine Gw.val rfl rfl rfl rfl rfl (fun us => val_move rfl rfl) ?_
  refine Gw.slot (t := 62) (v := .bool true) (look_boolT rfl (by rw [hin]; rfl)) ?_
  refine Gw.skipg rfl rfl rfl rfl rfl rfl rfl ?_
  refine Gw.skipg rfl rfl rfl rfl rfl rfl rfl ?_
  refine Gw.skipg rfl rfl rfl rfl rfl rfl rfl ?_
  refine Gw.val rfl rfl rfl rfl rfl (fun us => val_pickT rfl rfl rfl) ?_
  refine Gw.val rfl rfl rfl rfl rfl (fun us => val_move rfl rfl) ?_
  refine Gw.skipg rfl rfl rfl rfl rfl rfl rfl ?_
  refine Gw.skipg rfl rfl rfl rfl rfl rfl rfl ?_
  refine Gw.skipg rfl rfl rfl rfl rfl rfl rfl ?_
  refine Gw.skipg rfl rfl rfl rfl rfl rfl rfl ?_
  refine Gw.skipg rfl rfl rfl rfl rfl rfl rfl ?_
  refine Gw.skipg rfl rfl rfl rfl rfl rfl rfl ?_
  refine Gw.skipg rfl rfl rfl rfl rfl rfl rfl ?_
  refine Gw.skipg rfl rfl rfl rfl rfl rfl rfl ?_
  refine Gw.skipg rfl rfl rfl rfl rfl rfl rfl ?_
  refine Gw.skipg rfl rfl rfl rfl rfl rfl rfl ?_
  refine Gw.skipg rfl rfl rfl rfl rfl rfl rfl ?_
  refine Gw.val rfl rfl rfl rfl rfl (fun us => val_pickT rfl rfl rfl) ?_
  refine Gw.val rfl rfl rfl rfl rfl (fun us => val_move rfl rfl) ?_
  refine Gw.skipg rfl rfl rfl rfl rfl rfl rfl ?_
  refine Gw.skipg rfl rfl rfl rfl rfl rfl rfl ?_
  refine Gw.skipg rfl rfl rfl rfl rfl rfl rfl ?_
  refine Gw.skipg rfl rfl rfl rfl rfl rfl rfl ?_
  refine Gw.skipg rfl rfl rfl rfl rfl rfl rfl ?_
  refine Gw.skipg rfl rfl rfl rfl rfl rfl rfl ?_
  refine Gw.skipg rfl rfl rfl rfl rfl rfl rfl ?_
  refine Gw.val rfl rfl rfl rfl rfl (fun us => val_pickT rfl rfl rfl) ?_
  refine Gw.val rfl rfl rfl rfl rfl (fun us => val_move rfl rfl) ?_
  refine Gw.skipg rfl rfl rfl rfl rfl rfl rfl ?_
  refine Gw.skipg rfl rfl rfl rfl rfl rfl rfl ?_
  refine Gw.skipg rfl rfl rfl rfl rfl rfl rfl ?_
  refine Gw.skipg rfl rfl rfl rfl rfl rfl rfl ?_
  refine Gw.skipg rfl rfl rfl rfl rfl rfl rfl ?_
  refine Gw.skipg rfl rfl rfl rfl rfl rfl rfl ?_
  refine Gw.skipg rfl rfl rfl rfl rfl rfl rfl ?_
  refine Gw.done ?_
  refine Gx.norm (l' := [Hp.rec_ b12 [.int .i64 i, .int .i64 j]]) rfl ?_
  refine Gx.val rfl rfl rfl (val_pickT rfl rfl rfl) ?_
  refine Gx.done ?_
  refine Gx.thenN ?_
  refine Gx.t rfl ?_
  refine Gx.seq ?_
  refine Gx.region ?_
  refine Gx.val rfl rfl rfl (val_assign rfl rfl) ?_
  refine Gx.done ?_
  refine Gx.thenN ?_
  refine Gx.ret ?_
  refine Gx.thenR ?_
  refine Gx.ret1B hW9 Try.results4 rfl ?_
  rfl

theorem rise_two {n : Nat} {l : List Ev} (hok : OkE n l) {i j : Nat} {e f : Ev} (hij : i < j) (hj : j < l.length) (he : l[i]? = some e) (hf : l[j]? = some f) (hw : e.who = f.who) :
    (scalL l l.length).getD i 0 < (scalL l l.length).getD j 0 ∧ ((vecL l n l.length).getD i []).getD e.who.toNat 0 < ((vecL l n l.length).getD j []).getD e.who.toNat 0 := by
  have := rise hok j i e f hij he hf hw
  rw [Int.toNat_natCast] at this; exact this
theorem rise_in {W : World} {v : Value} {l : List Ev} (n i j : Nat) (hs : SlS FE 3 W v l) (hok : OkE n l) (hi : i < l.length) (hj : j < l.length) :
    Calls Try.prog 4 #[.int .i64 ((n : Nat) : Int), v, .int .i64 ((i : Nat) : Int), .int .i64 ((j : Nat) : Int)] W fun e w' => e = .returned (.bool true) ∧ Below W.heap.size W w' := by
  have hm := len_bd hs
  have hsl := scalL_len l l.length
  refine calls_pure (Gx.enter (l := []) Try.func4 rfl Try.ntmps4 rfl (Sat.start W) ?_)
  refine Gx.know (m' := [(0, .int .i64 ((n : Nat) : Int)), (1, v), (2, .int .i64 ((i : Nat) : Int)), (3, .int .i64 ((j : Nat) : Int))]) (.cons rfl (.cons rfl (.cons rfl (.cons rfl .nil)))) ?_
  refine Gx.seq ?_
  refine Gx.region ?_
  refine Gx.val rfl rfl rfl (val_assign rfl rfl) ?_
  refine Gx.done ?_
  refine Gx.thenN ?_
  refine Gx.seq ?_
  refine Gx.region ?_
  refine Gx.val rfl rfl rfl (val_move rfl rfl) ?_
  refine Gx.val rfl rfl rfl (val_move rfl rfl) ?_
  refine Gx.callB rfl rfl rfl (vs := [.int .i64 ((n : Nat) : Int), v]) rfl Try.fn13 rfl (R := fun u w => ∃ sv, u = .tuple #[sv, .int .i64 0] ∧ SlS SZ 1 w sv (scalL l l.length)) (fun w H => scalars_ok ((n : Nat) : Int) (hs.below H.below) hok) ?_
  rintro _ W1 ⟨sv, rfl, hsv⟩ H2
  have hW3 := H2.below
  have hs4 := hs.below H2.below
  refine Gx.val rfl rfl rfl (val_move rfl rfl) ?_
  refine Gx.val rfl rfl rfl (val_extract rfl rfl rfl) ?_
  refine Gx.val rfl rfl rfl (val_extract rfl rfl rfl) ?_
  refine Gx.val rfl rfl rfl (val_assign rfl rfl) ?_
  refine Gx.val rfl rfl rfl (val_assign rfl rfl) ?_
  refine Gx.done ?_
  refine Gx.thenN ?_
  refine Gx.seq ?_
  refine Gx.region ?_
  refine Gx.val rfl rfl rfl (val_move rfl rfl) ?_
  refine Gx.val rfl rfl rfl (val_move rfl rfl) ?_
  refine Gx.callB rfl rfl rfl (vs := [.int .i64 ((n : Nat) : Int), v]) rfl Try.fn11 rfl (R := fun u w => ∃ ov, u = .tuple #[ov, .int .i64 0] ∧ Vs w ov (vecL l n l.length)) (fun w H => vecs_ok n (hs4.below H.below) hok) ?_
  rintro _ W7 ⟨ov5, rfl, ps6, hps6, hvps6, hrps6⟩ H8
  have hW9 := hW3.trans (H8.below.mono hW3.size)
  have hs10 := hs4.below H8.below
  have hs11 := hsv.below H8.below
  have hlps6 : ps6.length = l.length := by rw [← List.length_map (f := Vc.xs), hps6, vecL_len]
  refine Gx.val rfl rfl rfl (val_move rfl rfl) ?_
  refine Gx.val rfl rfl rfl (val_extract rfl rfl rfl) ?_
  refine Gx.val rfl rfl rfl (val_extract rfl rfl rfl) ?_
  refine Gx.val rfl rfl rfl (val_assign rfl rfl) ?_
  refine Gx.val rfl rfl rfl (val_assign rfl rfl) ?_
  refine Gx.done ?_
  refine Gx.thenN ?_
  refine Gx.seq ?_
  refine Gx.seq ?_
  refine Gx.region ?_
  refine Gx.val rfl rfl rfl (val_move rfl rfl) ?_
  refine Gx.val rfl rfl rfl (val_move rfl rfl) ?_
  refine Gx.val rfl rfl rfl (val_call (vs := [.int .i64 ((n : Nat) : Int), v]) rfl Try.fn9 rfl (fun w H => events_ok ((n : Nat) : Int) (hs10.below H.below) hok)) ?_
  refine Gx.val rfl rfl rfl (Val.cast (val_not rfl rfl) (v' := .bool false) rfl) ?_
  refine Gx.done ?_
  refine Gx.thenN ?_
  refine Gx.f rfl ?_
  refine Gx.skip ?_
  refine Gx.thenN ?_
  refine Gx.seq ?_
  refine Gx.seq ?_
  refine Gx.region ?_
  refine Gx.val rfl rfl rfl (val_move rfl rfl) ?_
  refine Gx.val rfl rfl rfl (Val.cast (val_neq rfl rfl rfl) (v' := .bool false) rfl) ?_
  refine Gx.val rfl rfl rfl (val_move rfl rfl) ?_
  refine Gx.valg rfl rfl rfl rfl rfl (val_move rfl rfl) ?_
  refine Gx.valg rfl rfl rfl rfl rfl (Val.cast (val_neq rfl rfl rfl) (v' := .bool false) rfl) ?_
  refine Gx.val rfl rfl rfl (val_pickF rfl rfl rfl) ?_
  refine Gx.val rfl rfl rfl (val_move rfl rfl) ?_
  refine Gx.valg rfl rfl rfl rfl rfl (val_move rfl rfl) ?_
  refine Gx.valg rfl rfl rfl rfl rfl (val_len rfl Try.underlying32 rfl (len_base hs11)) ?_
  refine Gx.valg rfl rfl rfl rfl rfl (val_move rfl rfl) ?_
  refine Gx.valg rfl rfl rfl rfl rfl (val_len rfl Try.underlying22 rfl (len_base hs10)) ?_
  refine Gx.valg rfl rfl rfl rfl rfl (val_neq rfl rfl rfl) ?_
  refine Gx.val rfl rfl rfl (val_pickF rfl rfl rfl) ?_
  refine Gx.val rfl rfl rfl (val_move rfl rfl) ?_
  refine Gx.slot (t := 48) (v := .bool false) (look_decF rfl (by omega)) ?_
  refine Gx.valg rfl rfl rfl rfl rfl (val_move rfl rfl) ?_
  refine Gx.valg rfl rfl rfl rfl rfl (val_len rfl Try.underlying26 rfl (len_base hvps6)) ?_
  refine Gx.valg rfl rfl rfl rfl rfl (val_move rfl rfl) ?_
  refine Gx.valg rfl rfl rfl rfl rfl (val_len rfl Try.underlying22 rfl (len_base hs10)) ?_
  refine Gx.valg rfl rfl rfl rfl rfl (val_neq rfl rfl rfl) ?_
  refine Gx.val rfl rfl rfl (val_pickF rfl rfl rfl) ?_
  refine Gx.done ?_
  refine Gx.thenN ?_
  refine Gx.decF rfl (by omega) ?_
  refine Gx.skip ?_
  refine Gx.thenN ?_
  refine Gx.seq ?_
  refine Gx.seq ?_
  refine Gx.regionO (fun j => j == 4) 42 [0, 1, 2, 3, 4, 5, 6, 7, 8, 9, 10, 11, 12, 13, 14, 15, 16, 17, 18, 19, 20, 21, 22, 23, 24, 25, 26, 27, 28, 29, 30, 31, 32, 33, 34, 35, 36, 37, 38, 39, 40, 41] (fun us => match us with | [] => [] | u1 :: _ => [Hp.rec_ (sB u1) [.int .i64 ((i : Nat) : Int), .int .i64 ((j : Nat) : Int)]]) Try.mixed (by kernel_rfl) rfl ?_
  refine Gw.val rfl rfl rfl rfl rfl (fun us => val_move rfl rfl) ?_
  refine Gw.val rfl rfl rfl rfl rfl (fun us => val_len rfl Try.underlying22 rfl (len_base hs10)) ?_
  refine Gw.val rfl rfl rfl rfl rfl (fun us => val_move rfl rfl) ?_
  refine Gw.val rfl rfl rfl rfl rfl (fun us => val_move rfl rfl) ?_
  refine Gw.chg rfl rfl rfl rfl rfl (fun v => ∃ b12, v = .slice (some ⟨b12, 0, none⟩) 2 2) (Eff.mono (eff_buildSlice rfl (qs := [(0, .int .i64 ((i : Nat) : Int)), (1, .int .i64 ((j : Nat) : Int))]) rfl rfl (cs := #[.int .i64 ((i : Nat) : Int), .int .i64 ((j : Nat) : Int)]) (vs := [.int .i64 ((i : Nat) : Int), .int .i64 ((j : Nat) : Int)]) (E := 3) rfl (fun w => by first | (go_simp; done) | (go_simp; rfl))) (by rintro _ _ ⟨b12, rfl, rfl⟩; exact ⟨⟨b12, rfl⟩, rfl⟩)) ?_
  rintro _ ⟨b12, rfl⟩
  refine Gw.val0 rfl rfl rfl (by kernel_rfl) rfl rfl (val_call (vs := [.int .i64 ((l.length : Nat) : Int), .slice (some ⟨b12, 0, none⟩) 2 2]) rfl Try.fn14 rfl (fun w H => inside_b ((l.length : Nat) : Int) (recs_sz (xs := [((i : Nat) : Int), ((j : Nat) : Int)]) (H.at_ (k := 0) rfl) rfl))) ?_
  refine Gw.val rfl rfl rfl rfl rfl (fun us => val_not rfl rfl) ?_
  refine Gw.val rfl rfl rfl rfl rfl (fun us => val_move rfl rfl) ?_
  refine Gw.slot (t := 62) (v := .bool false) (look_boolF rfl (by rw [insI_yes (by simp; omega)]; rfl)) ?_
  refine Gw.valg rfl rfl rfl rfl rfl rfl rfl (fun us => val_move rfl rfl) ?_
  refine Gw.valg rfl rfl rfl rfl rfl rfl rfl (fun us => val_move rfl rfl) ?_
  refine Gw.valg rfl rfl rfl rfl rfl rfl rfl (fun us => val_geq rfl rfl rfl) ?_
  refine Gw.val rfl rfl rfl rfl rfl (fun us => val_pickF rfl rfl rfl) ?_
  refine Gw.val rfl rfl rfl rfl rfl (fun us => val_move rfl rfl) ?_
  refine Gw.cases (t := 67) rfl (fun h13 => ?_) (fun h13 => ?_)
  · refine Gw.skipg rfl rfl rfl rfl rfl rfl rfl ?_
    refine Gw.skipg rfl rfl rfl rfl rfl rfl rfl ?_
    refine Gw.skipg rfl rfl rfl rfl rfl rfl rfl ?_
    refine Gw.skipg rfl rfl rfl rfl rfl rfl rfl ?_
    refine Gw.skipg rfl rfl rfl rfl rfl rfl rfl ?_
    refine Gw.skipg rfl rfl rfl rfl rfl rfl rfl ?_
    refine Gw.skipg rfl rfl rfl rfl rfl rfl rfl ?_
    refine Gw.skipg rfl rfl rfl rfl rfl rfl rfl ?_
    refine Gw.skipg rfl rfl rfl rfl rfl rfl rfl ?_
    refine Gw.skipg rfl rfl rfl rfl rfl rfl rfl ?_
    refine Gw.skipg rfl rfl rfl rfl rfl rfl rfl ?_
    refine Gw.val rfl rfl rfl rfl rfl (fun us => val_pickT rfl rfl rfl) ?_
    refine Gw.val rfl rfl rfl rfl rfl (fun us => val_move rfl rfl) ?_
    refine Gw.skipg rfl rfl rfl rfl rfl rfl rfl ?_
    obtain ⟨x14, hx14⟩ := get_of_lt (xs := ps6) (k := i) (by omega)
    have hrlix14 : x14.xs.length = n := vecL_each l n _ _ (by rw [← hps6]; exact List.mem_map.2 ⟨_, List.mem_of_getElem? hx14, rfl⟩)
    refine Gw.skipg rfl rfl rfl rfl rfl rfl rfl ?_
    refine Gw.skipg rfl rfl rfl rfl rfl rfl rfl ?_
    refine Gw.skipg rfl rfl rfl rfl rfl rfl rfl ?_
    refine Gw.skipg rfl rfl rfl rfl rfl rfl rfl ?_
    refine Gw.skipg rfl rfl rfl rfl rfl rfl rfl ?_
    refine Gw.skipg rfl rfl rfl rfl rfl rfl rfl ?_
    refine Gw.val rfl rfl rfl rfl rfl (fun us => val_pickT rfl rfl rfl) ?_
    refine Gw.val rfl rfl rfl rfl rfl (fun us => val_move rfl rfl) ?_
    refine Gw.skipg rfl rfl rfl rfl rfl rfl rfl ?_
    obtain ⟨x15, hx15⟩ := get_of_lt (xs := ps6) (k := j) (by omega)
    have hrljx15 : x15.xs.length = n := vecL_each l n _ _ (by rw [← hps6]; exact List.mem_map.2 ⟨_, List.mem_of_getElem? hx15, rfl⟩)
    refine Gw.skipg rfl rfl rfl rfl rfl rfl rfl ?_
    refine Gw.skipg rfl rfl rfl rfl rfl rfl rfl ?_
    refine Gw.skipg rfl rfl rfl rfl rfl rfl rfl ?_
    refine Gw.skipg rfl rfl rfl rfl rfl rfl rfl ?_
    refine Gw.skipg rfl rfl rfl rfl rfl rfl rfl ?_
    refine Gw.skipg rfl rfl rfl rfl rfl rfl rfl ?_
    refine Gw.done ?_
    refine Gx.norm (l' := [Hp.rec_ b12 [.int .i64 ((i : Nat) : Int), .int .i64 ((j : Nat) : Int)]]) rfl ?_
    refine Gx.val rfl rfl rfl (val_pickT rfl rfl rfl) ?_
    refine Gx.done ?_
    refine Gx.thenN ?_
    refine Gx.t rfl ?_
    refine Gx.seq ?_
    refine Gx.region ?_
    refine Gx.val rfl rfl rfl (val_assign rfl rfl) ?_
    refine Gx.done ?_
    refine Gx.thenN ?_
    refine Gx.ret ?_
    refine Gx.thenR ?_
    refine Gx.ret1B hW9 Try.results4 rfl ?_
    rfl
  · refine Gw.valg rfl rfl rfl rfl rfl rfl rfl (fun us => val_move rfl rfl) ?_
    refine Gw.valg rfl rfl rfl rfl rfl rfl rfl (fun us => val_move rfl rfl) ?_
    obtain ⟨x16, hx16⟩ := get_of_lt (xs := l) (k := i) (by omega)
    refine Gw.valg rfl rfl rfl rfl rfl rfl rfl (fun us => val_ixa rfl Try.underlying22 Try.ty30 rfl rfl (j := i) (rfl) (reach_base hs10 hx16)) ?_
    refine Gw.valg rfl rfl rfl rfl rfl rfl rfl (fun us => Val.cast (val_fieldAddr rfl Try.underlying30 rfl Try.ty3 rfl rfl) (v' := ptr (sB v) (sO v + i * 3 + 1)) rfl) ?_
    refine Gw.valg rfl rfl rfl rfl rfl rfl rfl (fun us => val_load rfl Try.ty3 rfl rfl (cell_base (i := 1) hs10 hx16 rfl)) ?_
    refine Gw.valg rfl rfl rfl rfl rfl rfl rfl (fun us => val_move rfl rfl) ?_
    refine Gw.valg rfl rfl rfl rfl rfl rfl rfl (fun us => val_move rfl rfl) ?_
    obtain ⟨x17, hx17⟩ := get_of_lt (xs := l) (k := j) (by omega)
    refine Gw.valg rfl rfl rfl rfl rfl rfl rfl (fun us => val_ixa rfl Try.underlying22 Try.ty30 rfl rfl (j := j) (rfl) (reach_base hs10 hx17)) ?_
    refine Gw.valg rfl rfl rfl rfl rfl rfl rfl (fun us => Val.cast (val_fieldAddr rfl Try.underlying30 rfl Try.ty3 rfl rfl) (v' := ptr (sB v) (sO v + j * 3 + 1)) rfl) ?_
    refine Gw.valg rfl rfl rfl rfl rfl rfl rfl (fun us => val_load rfl Try.ty3 rfl rfl (cell_base (i := 1) hs10 hx17 rfl)) ?_
    refine Gw.valg rfl rfl rfl rfl rfl rfl rfl (fun us => val_neq rfl rfl rfl) ?_
    refine Gw.val rfl rfl rfl rfl rfl (fun us => val_pickF rfl rfl rfl) ?_
    refine Gw.val rfl rfl rfl rfl rfl (fun us => val_move rfl rfl) ?_
    refine Gw.cases (t := 80) rfl (fun h18 => ?_) (fun h18 => ?_)
    · refine Gw.skipg rfl rfl rfl rfl rfl rfl rfl ?_
      obtain ⟨x19, hx19⟩ := get_of_lt (xs := ps6) (k := i) (by omega)
      have hrlix19 : x19.xs.length = n := vecL_each l n _ _ (by rw [← hps6]; exact List.mem_map.2 ⟨_, List.mem_of_getElem? hx19, rfl⟩)
      refine Gw.skipg rfl rfl rfl rfl rfl rfl rfl ?_
      refine Gw.skipg rfl rfl rfl rfl rfl rfl rfl ?_
      refine Gw.skipg rfl rfl rfl rfl rfl rfl rfl ?_
      refine Gw.skipg rfl rfl rfl rfl rfl rfl rfl ?_
      refine Gw.skipg rfl rfl rfl rfl rfl rfl rfl ?_
      refine Gw.skipg rfl rfl rfl rfl rfl rfl rfl ?_
      refine Gw.val rfl rfl rfl rfl rfl (fun us => val_pickT rfl rfl rfl) ?_
      refine Gw.val rfl rfl rfl rfl rfl (fun us => val_move rfl rfl) ?_
      refine Gw.skipg rfl rfl rfl rfl rfl rfl rfl ?_
      obtain ⟨x20, hx20⟩ := get_of_lt (xs := ps6) (k := j) (by omega)
      have hrljx20 : x20.xs.length = n := vecL_each l n _ _ (by rw [← hps6]; exact List.mem_map.2 ⟨_, List.mem_of_getElem? hx20, rfl⟩)
      refine Gw.skipg rfl rfl rfl rfl rfl rfl rfl ?_
      refine Gw.skipg rfl rfl rfl rfl rfl rfl rfl ?_
      refine Gw.skipg rfl rfl rfl rfl rfl rfl rfl ?_
      refine Gw.skipg rfl rfl rfl rfl rfl rfl rfl ?_
      refine Gw.skipg rfl rfl rfl rfl rfl rfl rfl ?_
      refine Gw.skipg rfl rfl rfl rfl rfl rfl rfl ?_
      refine Gw.done ?_
      refine Gx.norm (l' := [Hp.rec_ b12 [.int .i64 ((i : Nat) : Int), .int .i64 ((j : Nat) : Int)]]) rfl ?_
      refine Gx.val rfl rfl rfl (val_pickT rfl rfl rfl) ?_
      refine Gx.done ?_
      refine Gx.thenN ?_
      refine Gx.t rfl ?_
      refine Gx.seq ?_
      refine Gx.region ?_
      refine Gx.val rfl rfl rfl (val_assign rfl rfl) ?_
      refine Gx.done ?_
      refine Gx.thenN ?_
      refine Gx.ret ?_
      refine Gx.thenR ?_
      refine Gx.ret1B hW9 Try.results4 rfl ?_
      rfl
    · refine Gw.valg rfl rfl rfl rfl rfl rfl rfl (fun us => val_move rfl rfl) ?_
      obtain ⟨x21, hx21⟩ := get_of_lt (xs := ps6) (k := i) (by omega)
      have hrlix21 : x21.xs.length = n := vecL_each l n _ _ (by rw [← hps6]; exact List.mem_map.2 ⟨_, List.mem_of_getElem? hx21, rfl⟩)
      refine Gw.valg rfl rfl rfl rfl rfl rfl rfl (fun us => val_move rfl rfl) ?_
      refine Gw.valg rfl rfl rfl rfl rfl rfl rfl (fun us => val_ixa rfl Try.underlying26 Try.ty32 rfl rfl (j := i) (rfl) (reach_base hvps6 hx21)) ?_
      refine Gw.valg rfl rfl rfl rfl rfl rfl rfl (fun us => val_load rfl Try.ty32 rfl rfl (cell_base (i := 0) hvps6 hx21 rfl)) ?_
      have hr22 := hrps6 _ (List.mem_of_getElem? hx21)
      refine Gw.valg rfl rfl rfl rfl rfl rfl rfl (fun us => val_len rfl Try.underlying32 rfl (len_base hr22)) ?_
      refine Gw.valg rfl rfl rfl rfl rfl rfl rfl (fun us => val_move rfl rfl) ?_
      refine Gw.valg rfl rfl rfl rfl rfl rfl rfl (fun us => val_neq rfl rfl rfl) ?_
      refine Gw.val rfl rfl rfl rfl rfl (fun us => val_pickF rfl rfl rfl) ?_
      refine Gw.val rfl rfl rfl rfl rfl (fun us => val_move rfl rfl) ?_
      refine Gw.slot (t := 89) (v := .bool false) (look_decF rfl (by omega)) ?_
      refine Gw.valg rfl rfl rfl rfl rfl rfl rfl (fun us => val_move rfl rfl) ?_
      obtain ⟨x23, hx23⟩ := get_of_lt (xs := ps6) (k := j) (by omega)
      have hrljx23 : x23.xs.length = n := vecL_each l n _ _ (by rw [← hps6]; exact List.mem_map.2 ⟨_, List.mem_of_getElem? hx23, rfl⟩)
      refine Gw.valg rfl rfl rfl rfl rfl rfl rfl (fun us => val_move rfl rfl) ?_
      refine Gw.valg rfl rfl rfl rfl rfl rfl rfl (fun us => val_ixa rfl Try.underlying26 Try.ty32 rfl rfl (j := j) (rfl) (reach_base hvps6 hx23)) ?_
      refine Gw.valg rfl rfl rfl rfl rfl rfl rfl (fun us => val_load rfl Try.ty32 rfl rfl (cell_base (i := 0) hvps6 hx23 rfl)) ?_
      have hr24 := hrps6 _ (List.mem_of_getElem? hx23)
      refine Gw.valg rfl rfl rfl rfl rfl rfl rfl (fun us => val_len rfl Try.underlying32 rfl (len_base hr24)) ?_
      refine Gw.valg rfl rfl rfl rfl rfl rfl rfl (fun us => val_move rfl rfl) ?_
      refine Gw.valg rfl rfl rfl rfl rfl rfl rfl (fun us => val_neq rfl rfl rfl) ?_
      refine Gw.done ?_
      refine Gx.norm (l' := [Hp.rec_ b12 [.int .i64 ((i : Nat) : Int), .int .i64 ((j : Nat) : Int)]]) rfl ?_
      refine Gx.val rfl rfl rfl (val_pickF rfl rfl rfl) ?_
      refine Gx.done ?_
      refine Gx.thenN ?_
      refine Gx.decF rfl (by omega) ?_
      refine Gx.skip ?_
      refine Gx.thenN ?_
      refine Gx.seq ?_
      refine Gx.regionQ Try.mixed (by kernel_rfl) ?_
      refine Gq.val rfl rfl rfl (val_move rfl rfl) ?_
      refine Gq.val rfl rfl rfl (val_move rfl rfl) ?_
      obtain ⟨x25, hx25⟩ := get_of_lt (xs := (scalL l l.length)) (k := i) (by omega)
      refine Gq.val rfl rfl rfl (val_ixa rfl Try.underlying32 Try.ty3 rfl rfl (j := i) (rfl) (reach_base hs11 hx25)) ?_
      refine Gq.val rfl rfl rfl (val_load rfl Try.ty3 rfl rfl (cell_base (i := 0) hs11 hx25 rfl)) ?_
      refine Gq.val rfl rfl rfl (val_move rfl rfl) ?_
      refine Gq.val rfl rfl rfl (val_move rfl rfl) ?_
      obtain ⟨x26, hx26⟩ := get_of_lt (xs := (scalL l l.length)) (k := j) (by omega)
      refine Gq.val rfl rfl rfl (val_ixa rfl Try.underlying32 Try.ty3 rfl rfl (j := j) (rfl) (reach_base hs11 hx26)) ?_
      refine Gq.val rfl rfl rfl (val_load rfl Try.ty3 rfl rfl (cell_base (i := 0) hs11 hx26 rfl)) ?_
      refine Gq.val rfl rfl rfl (val_lss rfl rfl rfl) ?_
      refine Gq.val rfl rfl rfl (val_move rfl rfl) ?_
      refine Gq.slot (t := 107) (v := .bool true) (look_decT rfl (by have q := (rise_two hok (show i < j by omega) hj hx16 hx17 (by omega)).1; rw [getD_of hx25, getD_of hx26] at q; exact q)) ?_
      have hwb := hok.all _ _ hx16
      obtain ⟨_, hw0, hwn, _⟩ := hwb
      refine Gq.valg rfl rfl rfl rfl rfl (val_move rfl rfl) ?_
      refine Gq.valg rfl rfl rfl rfl rfl (val_move rfl rfl) ?_
      refine Gq.valg rfl rfl rfl rfl rfl (val_ixa rfl Try.underlying26 Try.ty32 rfl rfl (j := i) (rfl) (reach_base hvps6 hx21)) ?_
      refine Gq.valg rfl rfl rfl rfl rfl (val_load rfl Try.ty32 rfl rfl (cell_base (i := 0) hvps6 hx21 rfl)) ?_
      refine Gq.valg rfl rfl rfl rfl rfl (val_move rfl rfl) ?_
      refine Gq.valg rfl rfl rfl rfl rfl (val_move rfl rfl) ?_
      refine Gq.valg rfl rfl rfl rfl rfl (val_ixa rfl Try.underlying22 Try.ty30 rfl rfl (j := i) (rfl) (reach_base hs10 hx16)) ?_
      refine Gq.valg rfl rfl rfl rfl rfl (Val.cast (val_fieldAddr rfl Try.underlying30 rfl Try.ty3 rfl rfl) (v' := ptr (sB v) (sO v + i * 3 + 1)) rfl) ?_
      refine Gq.valg rfl rfl rfl rfl rfl (val_load rfl Try.ty3 rfl rfl (cell_base (i := 1) hs10 hx16 rfl)) ?_
      obtain ⟨x27, hx27⟩ := get_of_lt (xs := x21.xs) (k := x16.who.toNat) (by omega)
      refine Gq.valg rfl rfl rfl rfl rfl (val_ixa rfl Try.underlying32 Try.ty3 rfl rfl (j := x16.who.toNat) (by have := (hok.all _ _ hx16).2.1; omega) (reach_base hr22 hx27)) ?_
      refine Gq.valg rfl rfl rfl rfl rfl (val_load rfl Try.ty3 rfl rfl (cell_base (i := 0) hr22 hx27 rfl)) ?_
      refine Gq.valg rfl rfl rfl rfl rfl (val_move rfl rfl) ?_
      refine Gq.valg rfl rfl rfl rfl rfl (val_move rfl rfl) ?_
      refine Gq.valg rfl rfl rfl rfl rfl (val_ixa rfl Try.underlying26 Try.ty32 rfl rfl (j := j) (rfl) (reach_base hvps6 hx23)) ?_
      refine Gq.valg rfl rfl rfl rfl rfl (val_load rfl Try.ty32 rfl rfl (cell_base (i := 0) hvps6 hx23 rfl)) ?_
      refine Gq.valg rfl rfl rfl rfl rfl (val_move rfl rfl) ?_
      refine Gq.valg rfl rfl rfl rfl rfl (val_move rfl rfl) ?_
      refine Gq.valg rfl rfl rfl rfl rfl (val_ixa rfl Try.underlying22 Try.ty30 rfl rfl (j := i) (rfl) (reach_base hs10 hx16)) ?_
      refine Gq.valg rfl rfl rfl rfl rfl (Val.cast (val_fieldAddr rfl Try.underlying30 rfl Try.ty3 rfl rfl) (v' := ptr (sB v) (sO v + i * 3 + 1)) rfl) ?_
      refine Gq.valg rfl rfl rfl rfl rfl (val_load rfl Try.ty3 rfl rfl (cell_base (i := 1) hs10 hx16 rfl)) ?_
      obtain ⟨x28, hx28⟩ := get_of_lt (xs := x23.xs) (k := x16.who.toNat) (by omega)
      refine Gq.valg rfl rfl rfl rfl rfl (val_ixa rfl Try.underlying32 Try.ty3 rfl rfl (j := x16.who.toNat) (by have := (hok.all _ _ hx16).2.1; omega) (reach_base hr24 hx28)) ?_
      refine Gq.valg rfl rfl rfl rfl rfl (val_load rfl Try.ty3 rfl rfl (cell_base (i := 0) hr24 hx28 rfl)) ?_
      refine Gq.valg rfl rfl rfl rfl rfl (val_lss rfl rfl rfl) ?_
      refine Gq.val rfl rfl rfl (val_pickT rfl rfl rfl) ?_
      refine Gq.val rfl rfl rfl (val_assign rfl rfl) ?_
      refine Gq.done ?_
      refine Gx.thenN ?_
      refine Gx.ret ?_
      refine Gx.ret1B hW9 Try.results4 rfl ?_
      exact congrArg Value.bool (decide_eq_true (by have q := (rise_two hok (show i < j by omega) hj hx16 hx17 (by omega)).2; rw [getD_of (show (vecL l n l.length)[i]? = some x21.xs by rw [← hps6, List.getElem?_map, hx21]; rfl), getD_of (show (vecL l n l.length)[j]? = some x23.xs by rw [← hps6, List.getElem?_map, hx23]; rfl), getD_of hx27, getD_of hx28] at q; exact q))

theorem rise_any (n i j : Int) (v : Value) (l : List Ev) (W : World) (hs : SlS FE 3 W v l) : Calls Try.prog 4 #[.int .i64 n, v, .int .i64 i, .int .i64 j] W fun e w' => e = .returned (.bool true) ∧ Below W.heap.size W w' := by
  by_cases hok : OkE n l
  · obtain ⟨m, rfl⟩ := Int.eq_ofNat_of_zero_le (show 0 ≤ n by have := hok.low; omega)
    by_cases hin : 0 ≤ i ∧ i < l.length ∧ 0 ≤ j ∧ j < l.length
    · obtain ⟨a, rfl⟩ := Int.eq_ofNat_of_zero_le hin.1
      obtain ⟨b, rfl⟩ := Int.eq_ofNat_of_zero_le hin.2.2.1
      exact rise_in m a b hs hok (by omega) (by omega)
    · refine rise_out m i j hs hok ?_
      cases e : insI l.length [i, j]
      · rfl
      · have := insI_iff.1 e; simp at this; omega
  · exact rise_bad n i j hs hok

end Go.Proofs.Ytehcefknofcmiaa
