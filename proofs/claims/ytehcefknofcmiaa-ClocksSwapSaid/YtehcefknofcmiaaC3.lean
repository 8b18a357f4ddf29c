/- The small functions once more, and Lamport's law. No condition. -/
import Derived.Test.YtehcefknofcmiaaM1
namespace Go.Proofs.Ytehcefknofcmiaa
open Go.RowKit
set_option linter.unusedVariables false
set_option maxRecDepth 100000

theorem events_ok {W : World} {v : Value} {l : List Ev} (n : Int) (h : SlS FE 3 W v l) (hok : OkE n l) : Calls Try.prog 9 #[.int .i64 n, v] W fun e w' => e = .returned (.bool true) ∧ Below W.heap.size W w' := by
  refine (events_any n h).mono ?_
  rintro e w' ⟨⟨b, rfl, hb⟩, hl⟩
  rw [hb.2 hok]; exact ⟨rfl, hl⟩
theorem events_no {W : World} {v : Value} {l : List Ev} (n : Int) (h : SlS FE 3 W v l) (hok : ¬ OkE n l) : Calls Try.prog 9 #[.int .i64 n, v] W fun e w' => e = .returned (.bool false) ∧ Below W.heap.size W w' := by
  refine (events_any n h).mono ?_
  rintro e w' ⟨⟨b, rfl, hb⟩, hl⟩
  cases b
  · exact ⟨rfl, hl⟩
  · exact absurd (hb.1 rfl) hok
theorem scalars_ok {W : World} {v : Value} {l : List Ev} (n : Int) (h : SlS FE 3 W v l) (hok : OkE n l) : Calls Try.prog 13 #[.int .i64 n, v] W fun e w' => ∃ u, e = .returned u ∧ (∃ sv, u = .tuple #[sv, .int .i64 0] ∧ SlS SZ 1 w' sv (scalL l l.length)) ∧ Below W.heap.size W w' := by
  refine (scalars_any n h).mono ?_
  rintro e w' ⟨⟨sv, c, rfl, hc, hs⟩, hl⟩
  obtain rfl := hc.2 hok
  exact ⟨_, rfl, ⟨sv, rfl, hs rfl⟩, hl⟩
theorem vecs_ok {W : World} {v : Value} {l : List Ev} (n : Nat) (h : SlS FE 3 W v l) (hok : OkE n l) : Calls Try.prog 11 #[.int .i64 n, v] W fun e w' => ∃ u, e = .returned u ∧ (∃ ov, u = .tuple #[ov, .int .i64 0] ∧ Vs w' ov (vecL l n l.length)) ∧ Below W.heap.size W w' := by
  refine (vectorsF_any n h).mono ?_
  rintro e w' ⟨⟨sv, c, rfl, hc, hs⟩, hl⟩
  obtain rfl := hc.2 hok
  exact ⟨_, rfl, ⟨sv, rfl, hs rfl⟩, hl⟩
theorem recs_sz {W w : World} {b : Nat} {xs : List Int} {cs : List Value} {R : Hp} (H : Sat W w (Hp.rec_ b cs * R)) (hc : cs = xs.map (Value.int .i64)) (hl : xs.length ≤ 1000 := by simp) : SlS SZ 1 w (.slice (some ⟨b, 0, none⟩) xs.length xs.length) xs := by
  refine ⟨_, xs.length, rfl, by omega, ⟨(fun h => by cases h), Nat.le_refl _⟩, fun j y hy => ⟨b, 0, rfl, H.rec_.1, fun i u hu => ?_⟩⟩
  match i with
  | 0 =>
    simp at hu; subst hu
    have := H.cell j (u := .int .i64 y) (by rw [hc, List.getElem?_map, hy]; rfl)
    simpa using this
  | i + 1 => simp at hu
theorem inside_b {w : World} {v : Value} {xs : List Int} (n : Int) (h : SlS SZ 1 w v xs) : Calls Try.prog 14 #[.int .i64 n, v] w fun e w' => e = .returned (.bool (insI n xs)) ∧ Below w.heap.size w w' :=
  (inside_any n (sl_sz h)).mono fun e w' ⟨he, hw⟩ => ⟨he, by rw [← hw]; exact Below.refl _ _⟩
theorem insI_yes {n : Int} {xs : List Int} (h : ∀ x ∈ xs, 0 ≤ x ∧ x < n) : insI n xs = true := insI_iff.2 h
theorem getD_of {α : Type} {xs : List α} {i : Nat} {x d : α} (h : xs[i]? = some x) : xs.getD i d = x := by rw [List.getD_eq_getElem?_getD, h]; rfl

theorem lamport_bad {W : World} {v : Value} {l : List Ev} (n i j : Int) (hs : SlS FE 3 W v l) (hok : ¬ OkE n l) :
    Calls Try.prog 8 #[.int .i64 n, v, .int .i64 i, .int .i64 j] W fun e w' => e = .returned (.bool true) ∧ Below W.heap.size W w' := by
  have hm := len_bd hs
  refine calls_pure (Gx.enter (l := []) Try.func8 rfl Try.ntmps8 rfl (Sat.start W) ?_)
  refine Gx.know (m' := [(0, .int .i64 n), (1, v), (2, .int .i64 i), (3, .int .i64 j)]) (.cons rfl (.cons rfl (.cons rfl (.cons rfl .nil)))) ?_
  refine Gx.seq ?_
  refine Gx.region ?_
  refine Gx.val rfl rfl rfl (val_assign rfl rfl) ?_
  refine Gx.done ?_
  refine Gx.thenN ?_
  refine Gx.seq ?_
  refine Gx.seq ?_
  refine Gx.region ?_
  refine Gx.val rfl rfl rfl (val_move rfl rfl) ?_
  refine Gx.val rfl rfl rfl (val_move rfl rfl) ?_
  refine Gx.val rfl rfl rfl (val_call (vs := [.int .i64 n, v]) rfl Try.fn9 rfl (fun w H => events_no n (hs.below H.below) hok)) ?_
  refine Gx.val rfl rfl rfl (Val.cast (val_not rfl rfl) (v' := .bool true) rfl) ?_
  refine Gx.done ?_
  refine Gx.thenN ?_
  refine Gx.t rfl ?_
  refine Gx.seq ?_
  refine Gx.region ?_
  refine Gx.val rfl rfl rfl (val_move rfl rfl) ?_
  refine Gx.val rfl rfl rfl (val_move rfl rfl) ?_
  refine Gx.eff rfl rfl rfl (eff_callE (vs := [.int .i64 n, v]) rfl Try.fn10 rfl (R := fun u => ∃ c : Int, u = .int .i64 c ∧ c ≠ 0) (fun w H => check_no n (hs.below H.below) hok)) ?_
  rintro _ _ ⟨⟨c1, rfl, hc1⟩, rfl⟩
  refine Gx.val rfl rfl rfl (val_neq rfl rfl rfl) ?_
  refine Gx.val rfl rfl rfl (val_assign rfl rfl) ?_
  refine Gx.done ?_
  refine Gx.thenN ?_
  refine Gx.ret ?_
  refine Gx.thenR ?_
  refine Gx.ret1 Try.results8 rfl ?_
  exact congrArg Value.bool (decide_eq_true (by assumption))

theorem lamport_out {W : World} {v : Value} {l : List Ev} (n : Nat) (i j : Int) (hs : SlS FE 3 W v l) (hok : OkE n l) (hns : ¬ (0 ≤ i ∧ i < l.length ∧ 0 ≤ j ∧ j < l.length)) (hin : insI l.length [i, j] = false) :
    Calls Try.prog 8 #[.int .i64 ((n : Nat) : Int), v, .int .i64 i, .int .i64 j] W fun e w' => e = .returned (.bool true) ∧ Below W.heap.size W w' := by
  have hm := len_bd hs
  have hsl := scalL_len l l.length
  refine calls_pure (Gx.enter (l := []) Try.func8 rfl Try.ntmps8 rfl (Sat.start W) ?_)
  refine Gx.know (m' := [(0, .int .i64 ((n : Nat) : Int)), (1, v), (2, .int .i64 i), (3, .int .i64 j)]) (.cons rfl (.cons rfl (.cons rfl (.cons rfl .nil)))) ?_
  refine Gx.seq ?_
  refine Gx.region ?_
  refine Gx.val rfl rfl rfl (val_assign rfl rfl) ?_
  refine Gx.done ?_
  refine Gx.thenN ?_
  refine Gx.seq ?_
  refine Gx.seq ?_
  refine Gx.region ?_
  refine Gx.val rfl rfl rfl (val_move rfl rfl) ?_
  refine Gx.val rfl rfl rfl (val_move rfl rfl) ?_
  refine Gx.val rfl rfl rfl (val_call (vs := [.int .i64 ((n : Nat) : Int), v]) rfl Try.fn9 rfl (fun w H => events_ok ((n : Nat) : Int) (hs.below H.below) hok)) ?_
  refine Gx.val rfl rfl rfl (Val.cast (val_not rfl rfl) (v' := .bool false) rfl) ?_
  refine Gx.done ?_
  refine Gx.thenN ?_
  refine Gx.f rfl ?_
  refine Gx.skip ?_
  refine Gx.thenN ?_
  refine Gx.seq ?_
  refine Gx.region ?_
  refine Gx.val rfl rfl rfl (val_move rfl rfl) ?_
  refine Gx.val rfl rfl rfl (val_move rfl rfl) ?_
  refine Gx.callB rfl rfl rfl (vs := [.int .i64 ((n : Nat) : Int), v]) rfl Try.fn13 rfl (R := fun u w => ∃ sv, u = .tuple #[sv, .int .i64 0] ∧ SlS SZ 1 w sv (scalL l l.length)) (fun w H => scalars_ok ((n : Nat) : Int) (hs.below H.below) hok) ?_
  rintro _ W1 ⟨sv, rfl, hsv⟩ H2
  have hW3 := H2.below
  have hs4 := hs.below H2.below
  refine Gx.val rfl rfl rfl (val_move rfl rfl) ?_
  refine Gx.val rfl rfl rfl (val_extract rfl rfl rfl) ?_
  refine Gx.val rfl rfl rfl (val_extract rfl rfl rfl) ?_
  refine Gx.val rfl rfl rfl (val_assign rfl rfl) ?_
  refine Gx.val rfl rfl rfl (val_assign rfl rfl) ?_
  refine Gx.done ?_
  refine Gx.thenN ?_
  refine Gx.seq ?_
  refine Gx.region ?_
  refine Gx.val rfl rfl rfl (val_move rfl rfl) ?_
  refine Gx.val rfl rfl rfl (val_move rfl rfl) ?_
  refine Gx.val rfl rfl rfl (val_move rfl rfl) ?_
  refine Gx.val rfl rfl rfl (val_move rfl rfl) ?_
  refine Gx.eff rfl rfl rfl (eff_callE (vs := [.int .i64 ((n : Nat) : Int), v, .int .i64 i, .int .i64 j]) rfl Try.fn16 rfl (R := fun u => ∃ b c, u = .tuple #[.bool b, .int .i64 c] ∧ c ≠ 0) (fun w H => before_out ((n : Nat) : Int) i j (hs4.below H.below) hok (by assumption))) ?_
  rintro _ _ ⟨⟨b5, c6, rfl, hc6⟩, rfl⟩
  refine Gx.val rfl rfl rfl (val_move rfl rfl) ?_
  refine Gx.val rfl rfl rfl (val_extract rfl rfl rfl) ?_
  refine Gx.val rfl rfl rfl (val_extract rfl rfl rfl) ?_
  refine Gx.val rfl rfl rfl (val_assign rfl rfl) ?_
  refine Gx.val rfl rfl rfl (val_assign rfl rfl) ?_
  refine Gx.done ?_
  refine Gx.thenN ?_
  refine Gx.seq ?_
  refine Gx.seq ?_
  refine Gx.region ?_
  refine Gx.val rfl rfl rfl (val_move rfl rfl) ?_
  refine Gx.val rfl rfl rfl (Val.cast (val_neq rfl rfl rfl) (v' := .bool false) rfl) ?_
  refine Gx.val rfl rfl rfl (val_move rfl rfl) ?_
  refine Gx.valg rfl rfl rfl rfl rfl (val_move rfl rfl) ?_
  refine Gx.valg rfl rfl rfl rfl rfl (val_len rfl Try.underlying32 rfl (len_base hsv)) ?_
  refine Gx.valg rfl rfl rfl rfl rfl (val_move rfl rfl) ?_
  refine Gx.valg rfl rfl rfl rfl rfl (val_len rfl Try.underlying22 rfl (len_base hs4)) ?_
  refine Gx.valg rfl rfl rfl rfl rfl (val_neq rfl rfl rfl) ?_
  refine Gx.val rfl rfl rfl (val_pickF rfl rfl rfl) ?_
  refine Gx.done ?_
  refine Gx.thenN ?_
  refine Gx.decF rfl (by omega) ?_
  refine Gx.skip ?_
  refine Gx.thenN ?_
  refine Gx.seq ?_
  refine Gx.seq ?_
  refine Gx.region ?_
  refine Gx.val rfl rfl rfl (val_move rfl rfl) ?_
  refine Gx.val rfl rfl rfl (val_len rfl Try.underlying22 rfl (len_base hs4)) ?_
  refine Gx.val rfl rfl rfl (val_move rfl rfl) ?_
  refine Gx.val rfl rfl rfl (val_move rfl rfl) ?_
  refine Gx.eff rfl rfl rfl (eff_buildSlice rfl (qs := [(0, .int .i64 i), (1, .int .i64 j)]) rfl rfl (cs := #[.int .i64 i, .int .i64 j]) (vs := [.int .i64 i, .int .i64 j]) (E := 3) rfl (fun w => by first | (go_simp; done) | (go_simp; rfl))) ?_
  rintro _ _ ⟨b7, rfl, rfl⟩
  refine Gx.val rfl rfl rfl (val_call (vs := [.int .i64 ((l.length : Nat) : Int), .slice (some ⟨b7, 0, none⟩) 2 2]) rfl Try.fn14 rfl (fun w H => inside_b ((l.length : Nat) : Int) (recs_sz (xs := [i, j]) (H.at_ (k := 0) rfl) rfl))) ?_
  refine Gx.val rfl rfl rfl (val_not rfl rfl) ?_
  refine Gx.done ?_
  refine Gx.thenN ?_
  refine Gx.boolT rfl (by rw [hin]; rfl) ?_
  refine Gx.seq ?_
  refine Gx.region ?_
  refine Gx.val rfl rfl rfl (val_move rfl rfl) ?_
  refine Gx.val rfl rfl rfl (val_neq rfl rfl rfl) ?_
  refine Gx.val rfl rfl rfl (val_assign rfl rfl) ?_
  refine Gx.done ?_
  refine Gx.thenN ?_
  refine Gx.ret ?_
  refine Gx.thenR ?_
  refine Gx.ret1B hW3 Try.results8 rfl ?_
  exact congrArg Value.bool (decide_eq_true (by assumption))

theorem lamport_in {W : World} {v : Value} {l : List Ev} (n i j : Nat) (hs : SlS FE 3 W v l) (hok : OkE n l) (hi : i < l.length) (hj : j < l.length) :
    Calls Try.prog 8 #[.int .i64 ((n : Nat) : Int), v, .int .i64 ((i : Nat) : Int), .int .i64 ((j : Nat) : Int)] W fun e w' => e = .returned (.bool true) ∧ Below W.heap.size W w' := by
  have hm := len_bd hs
  have hsl := scalL_len l l.length
  refine calls_pure (Gx.enter (l := []) Try.func8 rfl Try.ntmps8 rfl (Sat.start W) ?_)
  refine Gx.know (m' := [(0, .int .i64 ((n : Nat) : Int)), (1, v), (2, .int .i64 ((i : Nat) : Int)), (3, .int .i64 ((j : Nat) : Int))]) (.cons rfl (.cons rfl (.cons rfl (.cons rfl .nil)))) ?_
  refine Gx.seq ?_
  refine Gx.region ?_
  refine Gx.val rfl rfl rfl (val_assign rfl rfl) ?_
  refine Gx.done ?_
  refine Gx.thenN ?_
  refine Gx.seq ?_
  refine Gx.seq ?_
  refine Gx.region ?_
  refine Gx.val rfl rfl rfl (val_move rfl rfl) ?_
  refine Gx.val rfl rfl rfl (val_move rfl rfl) ?_
  refine Gx.val rfl rfl rfl (val_call (vs := [.int .i64 ((n : Nat) : Int), v]) rfl Try.fn9 rfl (fun w H => events_ok ((n : Nat) : Int) (hs.below H.below) hok)) ?_
  refine Gx.val rfl rfl rfl (Val.cast (val_not rfl rfl) (v' := .bool false) rfl) ?_
  refine Gx.done ?_
  refine Gx.thenN ?_
  refine Gx.f rfl ?_
  refine Gx.skip ?_
  refine Gx.thenN ?_
  refine Gx.seq ?_
  refine Gx.region ?_
  refine Gx.val rfl rfl rfl (val_move rfl rfl) ?_
  refine Gx.val rfl rfl rfl (val_move rfl rfl) ?_
  refine Gx.callB rfl rfl rfl (vs := [.int .i64 ((n : Nat) : Int), v]) rfl Try.fn13 rfl (R := fun u w => ∃ sv, u = .tuple #[sv, .int .i64 0] ∧ SlS SZ 1 w sv (scalL l l.length)) (fun w H => scalars_ok ((n : Nat) : Int) (hs.below H.below) hok) ?_
  rintro _ W1 ⟨sv, rfl, hsv⟩ H2
  have hW3 := H2.below
  have hs4 := hs.below H2.below
  refine Gx.val rfl rfl rfl (val_move rfl rfl) ?_
  refine Gx.val rfl rfl rfl (val_extract rfl rfl rfl) ?_
  refine Gx.val rfl rfl rfl (val_extract rfl rfl rfl) ?_
  refine Gx.val rfl rfl rfl (val_assign rfl rfl) ?_
  refine Gx.val rfl rfl rfl (val_assign rfl rfl) ?_
  refine Gx.done ?_
  refine Gx.thenN ?_
  refine Gx.seq ?_
  refine Gx.region ?_
  refine Gx.val rfl rfl rfl (val_move rfl rfl) ?_
  refine Gx.val rfl rfl rfl (val_move rfl rfl) ?_
  refine Gx.val rfl rfl rfl (val_move rfl rfl) ?_
  refine Gx.val rfl rfl rfl (val_move rfl rfl) ?_
  refine Gx.val rfl rfl rfl (val_call (vs := [.int .i64 ((n : Nat) : Int), v, .int .i64 ((i : Nat) : Int), .int .i64 ((j : Nat) : Int)]) rfl Try.fn16 rfl (fun w H => before_ok n i j (hs4.below H.below) hok (by assumption) (by assumption))) ?_
  refine Gx.val rfl rfl rfl (val_move rfl rfl) ?_
  refine Gx.val rfl rfl rfl (val_extract rfl rfl rfl) ?_
  refine Gx.val rfl rfl rfl (val_extract rfl rfl rfl) ?_
  refine Gx.val rfl rfl rfl (val_assign rfl rfl) ?_
  refine Gx.val rfl rfl rfl (val_assign rfl rfl) ?_
  refine Gx.done ?_
  refine Gx.thenN ?_
  refine Gx.seq ?_
  refine Gx.seq ?_
  refine Gx.region ?_
  refine Gx.val rfl rfl rfl (val_move rfl rfl) ?_
  refine Gx.val rfl rfl rfl (Val.cast (val_neq rfl rfl rfl) (v' := .bool false) rfl) ?_
  refine Gx.val rfl rfl rfl (val_move rfl rfl) ?_
  refine Gx.valg rfl rfl rfl rfl rfl (val_move rfl rfl) ?_
  refine Gx.valg rfl rfl rfl rfl rfl (val_len rfl Try.underlying32 rfl (len_base hsv)) ?_
  refine Gx.valg rfl rfl rfl rfl rfl (val_move rfl rfl) ?_
  refine Gx.valg rfl rfl rfl rfl rfl (val_len rfl Try.underlying22 rfl (len_base hs4)) ?_
  refine Gx.valg rfl rfl rfl rfl rfl (val_neq rfl rfl rfl) ?_
  refine Gx.val rfl rfl rfl (val_pickF rfl rfl rfl) ?_
  refine Gx.done ?_
  refine Gx.thenN ?_
  refine Gx.decF rfl (by omega) ?_
  refine Gx.skip ?_
  refine Gx.thenN ?_
  refine Gx.seq ?_
  refine Gx.seq ?_
  refine Gx.region ?_
  refine Gx.val rfl rfl rfl (val_move rfl rfl) ?_
  refine Gx.val rfl rfl rfl (val_len rfl Try.underlying22 rfl (len_base hs4)) ?_
  refine Gx.val rfl rfl rfl (val_move rfl rfl) ?_
  refine Gx.val rfl rfl rfl (val_move rfl rfl) ?_
  refine Gx.eff rfl rfl rfl (eff_buildSlice rfl (qs := [(0, .int .i64 ((i : Nat) : Int)), (1, .int .i64 ((j : Nat) : Int))]) rfl rfl (cs := #[.int .i64 ((i : Nat) : Int), .int .i64 ((j : Nat) : Int)]) (vs := [.int .i64 ((i : Nat) : Int), .int .i64 ((j : Nat) : Int)]) (E := 3) rfl (fun w => by first | (go_simp; done) | (go_simp; rfl))) ?_
  rintro _ _ ⟨b5, rfl, rfl⟩
  refine Gx.val rfl rfl rfl (val_call (vs := [.int .i64 ((l.length : Nat) : Int), .slice (some ⟨b5, 0, none⟩) 2 2]) rfl Try.fn14 rfl (fun w H => inside_b ((l.length : Nat) : Int) (recs_sz (xs := [((i : Nat) : Int), ((j : Nat) : Int)]) (H.at_ (k := 0) rfl) rfl))) ?_
  refine Gx.val rfl rfl rfl (val_not rfl rfl) ?_
  refine Gx.done ?_
  refine Gx.thenN ?_
  refine Gx.boolF rfl (by rw [insI_yes (by simp; omega)]; rfl) ?_
  refine Gx.skip ?_
  refine Gx.thenN ?_
  refine Gx.seq ?_
  refine Gx.regionQ Try.mixed (by kernel_rfl) ?_
  refine Gq.val rfl rfl rfl (val_move rfl rfl) ?_
  refine Gq.val rfl rfl rfl (Val.cast (val_eql rfl rfl rfl) (v' := .bool true) rfl) ?_
  refine Gq.val rfl rfl rfl (val_move rfl rfl) ?_
  refine Gq.valg rfl rfl rfl rfl rfl (val_move rfl rfl) ?_
  refine Gq.valg rfl rfl rfl rfl rfl (val_not rfl rfl) ?_
  refine Gq.valg rfl rfl rfl rfl rfl (val_move rfl rfl) ?_
  refine Gq.casesB (t := 58) rfl (fun h6 => ?_) (fun h6 => ?_)
  · refine Gq.skipg rfl rfl rfl rfl rfl rfl ?_
    refine Gq.skipg rfl rfl rfl rfl rfl rfl ?_
    refine Gq.skipg rfl rfl rfl rfl rfl rfl ?_
    refine Gq.skipg rfl rfl rfl rfl rfl rfl ?_
    refine Gq.skipg rfl rfl rfl rfl rfl rfl ?_
    refine Gq.skipg rfl rfl rfl rfl rfl rfl ?_
    refine Gq.skipg rfl rfl rfl rfl rfl rfl ?_
    refine Gq.skipg rfl rfl rfl rfl rfl rfl ?_
    refine Gq.skipg rfl rfl rfl rfl rfl rfl ?_
    refine Gq.valg rfl rfl rfl rfl rfl (val_pickT rfl rfl rfl) ?_
    refine Gq.val rfl rfl rfl (val_pickT rfl rfl rfl) ?_
    refine Gq.val rfl rfl rfl (val_move rfl rfl) ?_
    refine Gq.valg rfl rfl rfl rfl rfl (val_move rfl rfl) ?_
    refine Gq.valg rfl rfl rfl rfl rfl (val_move rfl rfl) ?_
    obtain ⟨x7, hx7⟩ := get_of_lt (xs := (scalL l l.length)) (k := i) (by omega)
    refine Gq.valg rfl rfl rfl rfl rfl (val_ixa rfl Try.underlying32 Try.ty3 rfl rfl (j := i) (rfl) (reach_base hsv hx7)) ?_
    refine Gq.valg rfl rfl rfl rfl rfl (val_load rfl Try.ty3 rfl rfl (cell_base (i := 0) hsv hx7 rfl)) ?_
    refine Gq.valg rfl rfl rfl rfl rfl (val_geq rfl rfl rfl) ?_
    refine Gq.val rfl rfl rfl (val_pickT rfl rfl rfl) ?_
    refine Gq.val rfl rfl rfl (val_assign rfl rfl) ?_
    refine Gq.done ?_
    refine Gx.thenN ?_
    refine Gx.ret ?_
    refine Gx.ret1B hW3 Try.results8 rfl ?_
    exact congrArg Value.bool (decide_eq_true (scalL_bd l _ _ (List.mem_of_getElem? hx7)).1)
  · refine Gq.valg rfl rfl rfl rfl rfl (val_move rfl rfl) ?_
    refine Gq.valg rfl rfl rfl rfl rfl (val_move rfl rfl) ?_
    obtain ⟨x8, hx8⟩ := get_of_lt (xs := (scalL l l.length)) (k := i) (by omega)
    refine Gq.valg rfl rfl rfl rfl rfl (val_ixa rfl Try.underlying32 Try.ty3 rfl rfl (j := i) (rfl) (reach_base hsv hx8)) ?_
    refine Gq.valg rfl rfl rfl rfl rfl (val_load rfl Try.ty3 rfl rfl (cell_base (i := 0) hsv hx8 rfl)) ?_
    refine Gq.valg rfl rfl rfl rfl rfl (val_move rfl rfl) ?_
    refine Gq.valg rfl rfl rfl rfl rfl (val_move rfl rfl) ?_
    obtain ⟨x9, hx9⟩ := get_of_lt (xs := (scalL l l.length)) (k := j) (by omega)
    refine Gq.valg rfl rfl rfl rfl rfl (val_ixa rfl Try.underlying32 Try.ty3 rfl rfl (j := j) (rfl) (reach_base hsv hx9)) ?_
    refine Gq.valg rfl rfl rfl rfl rfl (val_load rfl Try.ty3 rfl rfl (cell_base (i := 0) hsv hx9 rfl)) ?_
    refine Gq.valg rfl rfl rfl rfl rfl (val_lss rfl rfl rfl) ?_
    refine Gq.valg rfl rfl rfl rfl rfl (val_pickF rfl rfl rfl) ?_
    refine Gq.val rfl rfl rfl (val_pickT rfl rfl rfl) ?_
    refine Gq.val rfl rfl rfl (val_move rfl rfl) ?_
    refine Gq.slot (t := 70) (v := .bool true) (look_decT rfl (by have q := lamport hok hi hj (by simpa using h6); rw [getD_of hx8, getD_of hx9] at q; exact q)) ?_
    refine Gq.valg rfl rfl rfl rfl rfl (val_move rfl rfl) ?_
    refine Gq.valg rfl rfl rfl rfl rfl (val_move rfl rfl) ?_
    refine Gq.valg rfl rfl rfl rfl rfl (val_ixa rfl Try.underlying32 Try.ty3 rfl rfl (j := i) (rfl) (reach_base hsv hx8)) ?_
    refine Gq.valg rfl rfl rfl rfl rfl (val_load rfl Try.ty3 rfl rfl (cell_base (i := 0) hsv hx8 rfl)) ?_
    refine Gq.valg rfl rfl rfl rfl rfl (val_geq rfl rfl rfl) ?_
    refine Gq.val rfl rfl rfl (val_pickT rfl rfl rfl) ?_
    refine Gq.val rfl rfl rfl (val_assign rfl rfl) ?_
    refine Gq.done ?_
    refine Gx.thenN ?_
    refine Gx.ret ?_
    refine Gx.ret1B hW3 Try.results8 rfl ?_
    exact congrArg Value.bool (decide_eq_true (scalL_bd l _ _ (List.mem_of_getElem? hx8)).1)

theorem lamport_any (n i j : Int) (v : Value) (l : List Ev) (W : World) (hs : SlS FE 3 W v l) : Calls Try.prog 8 #[.int .i64 n, v, .int .i64 i, .int .i64 j] W fun e w' => e = .returned (.bool true) ∧ Below W.heap.size W w' := by
  by_cases hok : OkE n l
  · obtain ⟨m, rfl⟩ := Int.eq_ofNat_of_zero_le (show 0 ≤ n by have := hok.low; omega)
    by_cases hin : 0 ≤ i ∧ i < l.length ∧ 0 ≤ j ∧ j < l.length
    · obtain ⟨a, rfl⟩ := Int.eq_ofNat_of_zero_le hin.1
      obtain ⟨b, rfl⟩ := Int.eq_ofNat_of_zero_le hin.2.2.1
      exact lamport_in m a b hs hok (by omega) (by omega)
    · refine lamport_out m i j hs hok hin ?_
      cases e : insI l.length [i, j]
      · rfl
      · have := insI_iff.1 e; simp at this; omega
  · exact lamport_bad n i j hs hok

end Go.Proofs.Ytehcefknofcmiaa
