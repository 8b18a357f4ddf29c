/- The nearest whole cuts of a cut. The walks. No condition. -/
import Derived.Test.YtffnjojdjbdfcaaA8
import Derived.Test.YtffnjojdjbdfcaaB1
namespace Go.Proofs.Ytffnjojdjbdfcaa
open Go.RowKit
set_option linter.unusedVariables false
set_option linter.unusedSimpArgs false
set_option maxRecDepth 100000

theorem closest_no {W : World} {n : Int} {r : List Ev} {a b : List Int} {hv av bv : Value} (hE : ¬ OkE n r) (hg : ¬ GoodC n r a) (hs : SlS FE 3 W hv r) (ha : SlS FZ 1 W av a) (hb : SlS FZ 1 W bv b) :
    Calls Try.prog 4 #[.int .i64 n, hv, av, bv] W fun e w' => e = .returned (.bool true) ∧ Below W.heap.size W w' := by
  refine calls_pure (Gx.enter (l := []) Try.func4 rfl Try.ntmps4 rfl (Sat.start W) ?_)
  refine Gx.know (m' := [(0, .int .i64 n), (1, hv), (2, av), (3, bv)]) (.cons rfl (.cons rfl (.cons rfl (.cons rfl .nil)))) ?_
  refine Gx.seq ?_
  refine Gx.region ?_
  refine Gx.val rfl rfl rfl (val_assign rfl rfl) ?_
  refine Gx.done ?_
  refine Gx.thenN ?_
  refine Gx.seq ?_
  refine Gx.region ?_
  refine Gx.val rfl rfl rfl (val_move rfl rfl) ?_
  refine Gx.val rfl rfl rfl (val_move rfl rfl) ?_
  refine Gx.val rfl rfl rfl (val_move rfl rfl) ?_
  refine Gx.eff rfl rfl rfl (eff_callE (vs := [.int .i64 n, hv, av]) rfl Try.fn12 rfl (R := fun v => ∃ z : Int, v = .tuple #[.slice none 0 0, .int .i64 z] ∧ z ≠ 0) (fun w H => grow_bad hg (hs.below H.below) (ha.below H.below))) ?_
  rintro _ _ ⟨⟨z1, rfl, hz1⟩, rfl⟩
  refine Gx.val rfl rfl rfl (val_move rfl rfl) ?_
  refine Gx.val rfl rfl rfl (val_extract rfl rfl rfl) ?_
  refine Gx.val rfl rfl rfl (val_extract rfl rfl rfl) ?_
  refine Gx.val rfl rfl rfl (val_assign rfl rfl) ?_
  refine Gx.val rfl rfl rfl (val_assign rfl rfl) ?_
  refine Gx.done ?_
  refine Gx.thenN ?_
  refine Gx.seq ?_
  refine Gx.region ?_
  refine Gx.val rfl rfl rfl (val_move rfl rfl) ?_
  refine Gx.val rfl rfl rfl (val_move rfl rfl) ?_
  refine Gx.val rfl rfl rfl (val_move rfl rfl) ?_
  refine Gx.eff rfl rfl rfl (eff_callE (vs := [.int .i64 n, hv, av]) rfl Try.fn13 rfl (R := fun v => ∃ z : Int, v = .tuple #[.slice none 0 0, .int .i64 z] ∧ z ≠ 0) (fun w H => shrink_bad hg (hs.below H.below) (ha.below H.below))) ?_
  rintro _ _ ⟨⟨z2, rfl, hz2⟩, rfl⟩
  refine Gx.val rfl rfl rfl (val_move rfl rfl) ?_
  refine Gx.val rfl rfl rfl (val_extract rfl rfl rfl) ?_
  refine Gx.val rfl rfl rfl (val_extract rfl rfl rfl) ?_
  refine Gx.val rfl rfl rfl (val_assign rfl rfl) ?_
  refine Gx.val rfl rfl rfl (val_assign rfl rfl) ?_
  refine Gx.done ?_
  refine Gx.thenN ?_
  refine Gx.seq ?_
  refine Gx.seq ?_
  refine Gx.region ?_
  refine Gx.val rfl rfl rfl (val_move rfl rfl) ?_
  refine Gx.val rfl rfl rfl (val_move rfl rfl) ?_
  refine Gx.val rfl rfl rfl (val_call (vs := [.int .i64 n, hv]) rfl Try.fn8 rfl (fun w H => events_no hE (hs.below H.below))) ?_
  refine Gx.val rfl rfl rfl (Val.cast (val_not rfl rfl) (v' := .bool true) rfl) ?_
  refine Gx.val rfl rfl rfl (val_move rfl rfl) ?_
  refine Gx.skipg rfl rfl rfl rfl rfl rfl ?_
  refine Gx.skipg rfl rfl rfl rfl rfl rfl ?_
  refine Gx.skipg rfl rfl rfl rfl rfl rfl ?_
  refine Gx.skipg rfl rfl rfl rfl rfl rfl ?_
  refine Gx.skipg rfl rfl rfl rfl rfl rfl ?_
  refine Gx.val rfl rfl rfl (val_pickT rfl rfl rfl) ?_
  refine Gx.done ?_
  refine Gx.thenN ?_
  refine Gx.t rfl ?_
  refine Gx.seq ?_
  refine Gx.region ?_
  refine Gx.val rfl rfl rfl (val_move rfl rfl) ?_
  refine Gx.val rfl rfl rfl (val_neq rfl rfl rfl) ?_
  refine Gx.val rfl rfl rfl (val_move rfl rfl) ?_
  refine Gx.slot (t := 44) (v := .bool true) (look_decT rfl (by assumption)) ?_
  refine Gx.valg rfl rfl rfl rfl rfl (val_move rfl rfl) ?_
  refine Gx.valg rfl rfl rfl rfl rfl (val_neq rfl rfl rfl) ?_
  refine Gx.val rfl rfl rfl (val_pickT rfl rfl rfl) ?_
  refine Gx.val rfl rfl rfl (val_assign rfl rfl) ?_
  refine Gx.done ?_
  refine Gx.thenN ?_
  refine Gx.ret ?_
  refine Gx.thenR ?_
  refine Gx.ret1 Try.results4 rfl ?_
  exact congrArg Value.bool (decide_eq_true (by assumption))

theorem cut_no {W : World} {n : Nat} {l : List En} {c : List Int} {hv cv : Value} (hok : OkC n l) (hc : ¬ CutZ n l c) (hs : SlS FEn 3 W hv l) (hcv : SlS FZ 1 W cv c) : Calls Try.prog 9 #[.int .i64 ((n : Nat) : Int), hv, cv] W fun e w' => e = .returned (.bool false) ∧ Below W.heap.size W w' :=
  (cut_any hok hs hcv).mono fun e w' ⟨v, he, ⟨b, hv, hb⟩, hw⟩ => ⟨by rw [he, hv, show b = false from by cases b; rfl; exact absurd (hb.1 rfl) hc], hw⟩
theorem closest_un {W : World} {n : Nat} {l : List En} {a b : List Int} {hv av bv : Value} (hE : OkE (n : Int) (l.map En.raw)) (hok : OkC n l) (hg : ¬ GoodC n (l.map En.raw) a) (hs : SlS FE 3 W hv (l.map En.raw)) (ha : SlS FZ 1 W av a) (hb : SlS FZ 1 W bv b) :
    Calls Try.prog 4 #[.int .i64 ((n : Nat) : Int), hv, av, bv] W fun e w' => e = .returned (.bool true) ∧ Below W.heap.size W w' := by
  refine calls_pure (Gx.enter (l := []) Try.func4 rfl Try.ntmps4 rfl (Sat.start W) ?_)
  refine Gx.know (m' := [(0, .int .i64 ((n : Nat) : Int)), (1, hv), (2, av), (3, bv)]) (.cons rfl (.cons rfl (.cons rfl (.cons rfl .nil)))) ?_
  refine Gx.seq ?_
  refine Gx.region ?_
  refine Gx.val rfl rfl rfl (val_assign rfl rfl) ?_
  refine Gx.done ?_
  refine Gx.thenN ?_
  refine Gx.seq ?_
  refine Gx.region ?_
  refine Gx.val rfl rfl rfl (val_move rfl rfl) ?_
  refine Gx.val rfl rfl rfl (val_move rfl rfl) ?_
  refine Gx.val rfl rfl rfl (val_move rfl rfl) ?_
  refine Gx.eff rfl rfl rfl (eff_callE (vs := [.int .i64 ((n : Nat) : Int), hv, av]) rfl Try.fn12 rfl (R := fun v => ∃ z : Int, v = .tuple #[.slice none 0 0, .int .i64 z] ∧ z ≠ 0) (fun w H => grow_bad hg (hs.below H.below) (ha.below H.below))) ?_
  rintro _ _ ⟨⟨z1, rfl, hz1⟩, rfl⟩
  refine Gx.val rfl rfl rfl (val_move rfl rfl) ?_
  refine Gx.val rfl rfl rfl (val_extract rfl rfl rfl) ?_
  refine Gx.val rfl rfl rfl (val_extract rfl rfl rfl) ?_
  refine Gx.val rfl rfl rfl (val_assign rfl rfl) ?_
  refine Gx.val rfl rfl rfl (val_assign rfl rfl) ?_
  refine Gx.done ?_
  refine Gx.thenN ?_
  refine Gx.seq ?_
  refine Gx.region ?_
  refine Gx.val rfl rfl rfl (val_move rfl rfl) ?_
  refine Gx.val rfl rfl rfl (val_move rfl rfl) ?_
  refine Gx.val rfl rfl rfl (val_move rfl rfl) ?_
  refine Gx.eff rfl rfl rfl (eff_callE (vs := [.int .i64 ((n : Nat) : Int), hv, av]) rfl Try.fn13 rfl (R := fun v => ∃ z : Int, v = .tuple #[.slice none 0 0, .int .i64 z] ∧ z ≠ 0) (fun w H => shrink_bad hg (hs.below H.below) (ha.below H.below))) ?_
  rintro _ _ ⟨⟨z2, rfl, hz2⟩, rfl⟩
  refine Gx.val rfl rfl rfl (val_move rfl rfl) ?_
  refine Gx.val rfl rfl rfl (val_extract rfl rfl rfl) ?_
  refine Gx.val rfl rfl rfl (val_extract rfl rfl rfl) ?_
  refine Gx.val rfl rfl rfl (val_assign rfl rfl) ?_
  refine Gx.val rfl rfl rfl (val_assign rfl rfl) ?_
  refine Gx.done ?_
  refine Gx.thenN ?_
  refine Gx.seq ?_
  refine Gx.seq ?_
  refine Gx.region ?_
  refine Gx.val rfl rfl rfl (val_move rfl rfl) ?_
  refine Gx.val rfl rfl rfl (val_move rfl rfl) ?_
  refine Gx.val rfl rfl rfl (val_call (vs := [.int .i64 ((n : Nat) : Int), hv]) rfl Try.fn8 rfl (fun w H => events_ok hE (hs.below H.below))) ?_
  refine Gx.val rfl rfl rfl (Val.cast (val_not rfl rfl) (v' := .bool false) rfl) ?_
  refine Gx.val rfl rfl rfl (val_move rfl rfl) ?_
  refine Gx.valg rfl rfl rfl rfl rfl (val_move rfl rfl) ?_
  refine Gx.valg rfl rfl rfl rfl rfl (val_move rfl rfl) ?_
  refine Gx.valg rfl rfl rfl rfl rfl (val_move rfl rfl) ?_
  refine Gx.valg rfl rfl rfl rfl rfl (val_call (vs := [.int .i64 ((n : Nat) : Int), hv, av]) rfl Try.fn9 rfl (fun w H => cut_no hok (fun h => hg ((GoodC.iff hE hok).2 h)) (sls_raw.1 (hs.below H.below)) (ha.below H.below))) ?_
  refine Gx.valg rfl rfl rfl rfl rfl (Val.cast (val_not rfl rfl) (v' := .bool true) rfl) ?_
  refine Gx.val rfl rfl rfl (val_pickF rfl rfl rfl) ?_
  refine Gx.done ?_
  refine Gx.thenN ?_
  refine Gx.t rfl ?_
  refine Gx.seq ?_
  refine Gx.region ?_
  refine Gx.val rfl rfl rfl (val_move rfl rfl) ?_
  refine Gx.val rfl rfl rfl (val_neq rfl rfl rfl) ?_
  refine Gx.val rfl rfl rfl (val_move rfl rfl) ?_
  refine Gx.slot (t := 44) (v := .bool true) (look_decT rfl (by assumption)) ?_
  refine Gx.valg rfl rfl rfl rfl rfl (val_move rfl rfl) ?_
  refine Gx.valg rfl rfl rfl rfl rfl (val_neq rfl rfl rfl) ?_
  refine Gx.val rfl rfl rfl (val_pickT rfl rfl rfl) ?_
  refine Gx.val rfl rfl rfl (val_assign rfl rfl) ?_
  refine Gx.done ?_
  refine Gx.thenN ?_
  refine Gx.ret ?_
  refine Gx.thenR ?_
  refine Gx.ret1 Try.results4 rfl ?_
  exact congrArg Value.bool (decide_eq_true (by assumption))

theorem closest_nb {W : World} {n : Nat} {l : List En} {a : List Nat} {b : List Int} {hv av bv : Value} (hE : OkE (n : Int) (l.map En.raw)) (hok : OkC n l) (hca : Cut n l a) (hcb : ¬ CutZ n l b) (hs : SlS FEn 3 W hv l) (ha : SlS FN 1 W av a) (hb : SlS FZ 1 W bv b) :
    Calls Try.prog 4 #[.int .i64 ((n : Nat) : Int), hv, av, bv] W fun e w' => e = .returned (.bool true) ∧ Below W.heap.size W w' := by
  have hla := hca.len
  have h1n := hok.low
  have h6n := hok.high
  refine calls_pure (Gx.enter (l := []) Try.func4 rfl Try.ntmps4 rfl (Sat.start W) ?_)
  refine Gx.know (m' := [(0, .int .i64 ((n : Nat) : Int)), (1, hv), (2, av), (3, bv)]) (.cons rfl (.cons rfl (.cons rfl (.cons rfl .nil)))) ?_
  refine Gx.seq ?_
  refine Gx.region ?_
  refine Gx.val rfl rfl rfl (val_assign rfl rfl) ?_
  refine Gx.done ?_
  refine Gx.thenN ?_
  refine Gx.seq ?_
  refine Gx.region ?_
  refine Gx.val rfl rfl rfl (val_move rfl rfl) ?_
  refine Gx.val rfl rfl rfl (val_move rfl rfl) ?_
  refine Gx.val rfl rfl rfl (val_move rfl rfl) ?_
  refine Gx.eff rfl rfl rfl (eff_callN (vs := [.int .i64 ((n : Nat) : Int), hv, av]) rfl Try.fn12 rfl (fun w H => grow_any hE hok (hca) (hs.below H.below) (ha.below H.below))) ?_
  rintro _ _ ⟨_, ⟨u1, d2, rfl, rfl, hjd2, hwd2, hiu1⟩, rfl⟩
  refine Gx.norm (l' := [Hp.own FN 1 u1 d2]) rfl ?_
  have hnd2 : d2.length = n := hjd2.cut.len
  refine Gx.val rfl rfl rfl (val_move rfl rfl) ?_
  refine Gx.val rfl rfl rfl (val_extract rfl rfl rfl) ?_
  refine Gx.val rfl rfl rfl (val_extract rfl rfl rfl) ?_
  refine Gx.val rfl rfl rfl (val_assign rfl rfl) ?_
  refine Gx.val rfl rfl rfl (val_assign rfl rfl) ?_
  refine Gx.done ?_
  refine Gx.thenN ?_
  refine Gx.seq ?_
  refine Gx.region ?_
  refine Gx.val rfl rfl rfl (val_move rfl rfl) ?_
  refine Gx.val rfl rfl rfl (val_move rfl rfl) ?_
  refine Gx.val rfl rfl rfl (val_move rfl rfl) ?_
  refine Gx.eff rfl rfl rfl (eff_callN (vs := [.int .i64 ((n : Nat) : Int), hv, av]) rfl Try.fn13 rfl (fun w H => shrink_any hE hok (hca) (hs.below H.below) (ha.below H.below))) ?_
  rintro _ _ ⟨_, ⟨u3, d4, rfl, rfl, hjd4, hwd4, hiu3⟩, rfl⟩
  refine Gx.norm (l' := [Hp.own FN 1 u3 d4, Hp.own FN 1 u1 d2]) rfl ?_
  have hnd4 : d4.length = n := hjd4.cut.len
  refine Gx.val rfl rfl rfl (val_move rfl rfl) ?_
  refine Gx.val rfl rfl rfl (val_extract rfl rfl rfl) ?_
  refine Gx.val rfl rfl rfl (val_extract rfl rfl rfl) ?_
  refine Gx.val rfl rfl rfl (val_assign rfl rfl) ?_
  refine Gx.val rfl rfl rfl (val_assign rfl rfl) ?_
  refine Gx.done ?_
  refine Gx.thenN ?_
  refine Gx.seq ?_
  refine Gx.seq ?_
  refine Gx.region ?_
  refine Gx.val rfl rfl rfl (val_move rfl rfl) ?_
  refine Gx.val rfl rfl rfl (val_move rfl rfl) ?_
  refine Gx.val rfl rfl rfl (val_call (vs := [.int .i64 ((n : Nat) : Int), hv]) rfl Try.fn8 rfl (fun w H => events_ok hE (sls_raw.2 (hs.below H.below)))) ?_
  refine Gx.val rfl rfl rfl (Val.cast (val_not rfl rfl) (v' := .bool false) rfl) ?_
  refine Gx.val rfl rfl rfl (val_move rfl rfl) ?_
  refine Gx.valg rfl rfl rfl rfl rfl (val_move rfl rfl) ?_
  refine Gx.valg rfl rfl rfl rfl rfl (val_move rfl rfl) ?_
  refine Gx.valg rfl rfl rfl rfl rfl (val_move rfl rfl) ?_
  refine Gx.valg rfl rfl rfl rfl rfl (val_call (vs := [.int .i64 ((n : Nat) : Int), hv, av]) rfl Try.fn9 rfl (fun w H => cut_yes hok hca (hs.below H.below) (ha.below H.below))) ?_
  refine Gx.valg rfl rfl rfl rfl rfl (Val.cast (val_not rfl rfl) (v' := .bool false) rfl) ?_
  refine Gx.val rfl rfl rfl (val_pickF rfl rfl rfl) ?_
  refine Gx.done ?_
  refine Gx.thenN ?_
  refine Gx.f rfl ?_
  refine Gx.skip ?_
  refine Gx.thenN ?_
  refine Gx.seq ?_
  refine Gx.region ?_
  refine Gx.val rfl rfl rfl (val_move rfl rfl) ?_
  refine Gx.val rfl rfl rfl (val_move rfl rfl) ?_
  refine Gx.val rfl rfl rfl (val_move rfl rfl) ?_
  refine Gx.eff rfl rfl rfl (eff_callE (vs := [.int .i64 ((n : Nat) : Int), hv, u1]) rfl Try.fn10 rfl (R := fun v => ∃ t : Bool, v = .tuple #[.bool t, .int .i64 0] ∧ (t = true ↔ Whole l d2)) (fun w H => whole_any hE hok (hjd2.cut) (hs.below H.below) ((H.at_ (k := 1) rfl).sls (by first | omega | (rw [near_len (by omega)]; omega) | (rw [full_len]; omega) | (rw [List.length_set]; omega) | (simp; omega))))) ?_
  rintro _ _ ⟨⟨b5, rfl, hb5⟩, rfl⟩
  refine Gx.val rfl rfl rfl (val_move rfl rfl) ?_
  refine Gx.val rfl rfl rfl (val_extract rfl rfl rfl) ?_
  refine Gx.val rfl rfl rfl (val_extract rfl rfl rfl) ?_
  refine Gx.val rfl rfl rfl (val_assign rfl rfl) ?_
  refine Gx.val rfl rfl rfl (val_assign rfl rfl) ?_
  refine Gx.done ?_
  refine Gx.thenN ?_
  refine Gx.seq ?_
  refine Gx.region ?_
  refine Gx.val rfl rfl rfl (val_move rfl rfl) ?_
  refine Gx.val rfl rfl rfl (val_move rfl rfl) ?_
  refine Gx.val rfl rfl rfl (val_move rfl rfl) ?_
  refine Gx.eff rfl rfl rfl (eff_callE (vs := [.int .i64 ((n : Nat) : Int), hv, u3]) rfl Try.fn10 rfl (R := fun v => ∃ t : Bool, v = .tuple #[.bool t, .int .i64 0] ∧ (t = true ↔ Whole l d4)) (fun w H => whole_any hE hok (hjd4.cut) (hs.below H.below) ((H.at_ (k := 0) rfl).sls (by first | omega | (rw [near_len (by omega)]; omega) | (rw [full_len]; omega) | (rw [List.length_set]; omega) | (simp; omega))))) ?_
  rintro _ _ ⟨⟨b6, rfl, hb6⟩, rfl⟩
  refine Gx.val rfl rfl rfl (val_move rfl rfl) ?_
  refine Gx.val rfl rfl rfl (val_extract rfl rfl rfl) ?_
  refine Gx.val rfl rfl rfl (val_extract rfl rfl rfl) ?_
  refine Gx.val rfl rfl rfl (val_assign rfl rfl) ?_
  refine Gx.val rfl rfl rfl (val_assign rfl rfl) ?_
  refine Gx.done ?_
  refine Gx.thenN ?_
  refine Gx.seq ?_
  refine Gx.seq ?_
  refine Gx.region ?_
  refine Gx.val rfl rfl rfl (val_move rfl rfl) ?_
  refine Gx.val rfl rfl rfl (Val.cast (val_neq rfl rfl rfl) (v' := .bool false) rfl) ?_
  refine Gx.val rfl rfl rfl (val_move rfl rfl) ?_
  refine Gx.valg rfl rfl rfl rfl rfl (val_move rfl rfl) ?_
  refine Gx.valg rfl rfl rfl rfl rfl (Val.cast (val_neq rfl rfl rfl) (v' := .bool false) rfl) ?_
  refine Gx.val rfl rfl rfl (val_pickF rfl rfl rfl) ?_
  refine Gx.val rfl rfl rfl (val_move rfl rfl) ?_
  refine Gx.valg rfl rfl rfl rfl rfl (val_move rfl rfl) ?_
  refine Gx.valg rfl rfl rfl rfl rfl (Val.cast (val_neq rfl rfl rfl) (v' := .bool false) rfl) ?_
  refine Gx.val rfl rfl rfl (val_pickF rfl rfl rfl) ?_
  refine Gx.val rfl rfl rfl (val_move rfl rfl) ?_
  refine Gx.valg rfl rfl rfl rfl rfl (val_move rfl rfl) ?_
  refine Gx.valg rfl rfl rfl rfl rfl (Val.cast (val_neq rfl rfl rfl) (v' := .bool false) rfl) ?_
  refine Gx.val rfl rfl rfl (val_pickF rfl rfl rfl) ?_
  refine Gx.val rfl rfl rfl (val_move rfl rfl) ?_
  refine Gx.valg rfl rfl rfl rfl rfl (val_move rfl rfl) ?_
  refine Gx.valg rfl rfl rfl rfl rfl (val_not rfl rfl) ?_
  refine Gx.val rfl rfl rfl (val_pickF rfl rfl rfl) ?_
  refine Gx.val rfl rfl rfl (val_move rfl rfl) ?_
  refine Gx.slot (t := 80) (v := .bool false) (look_boolF rfl ((by simp [hb5.2 hwd2]))) ?_
  refine Gx.valg rfl rfl rfl rfl rfl (val_move rfl rfl) ?_
  refine Gx.valg rfl rfl rfl rfl rfl (val_not rfl rfl) ?_
  refine Gx.val rfl rfl rfl (val_pickF rfl rfl rfl) ?_
  refine Gx.val rfl rfl rfl (val_move rfl rfl) ?_
  refine Gx.slot (t := 84) (v := .bool false) (look_boolF rfl ((by simp [hb6.2 hwd4]))) ?_
  refine Gx.valg rfl rfl rfl rfl rfl (val_move rfl rfl) ?_
  refine Gx.valg rfl rfl rfl rfl rfl (val_move rfl rfl) ?_
  refine Gx.valg rfl rfl rfl rfl rfl (val_call (vs := [av, u1]) rfl Try.fn14 rfl (fun w H => leq_any (ha.below H.below) ((H.at_ (k := 1) rfl).sls (by first | omega | (rw [near_len (by omega)]; omega) | (rw [full_len]; omega) | (rw [List.length_set]; omega) | (simp; omega))))) ?_
  refine Gx.valg rfl rfl rfl rfl rfl (val_not rfl rfl) ?_
  refine Gx.val rfl rfl rfl (val_pickF rfl rfl rfl) ?_
  refine Gx.val rfl rfl rfl (val_move rfl rfl) ?_
  refine Gx.slot (t := 90) (v := .bool false) (look_boolF rfl ((by simp [(leqB_iff (by omega)).2 hjd2.le]))) ?_
  refine Gx.valg rfl rfl rfl rfl rfl (val_move rfl rfl) ?_
  refine Gx.valg rfl rfl rfl rfl rfl (val_move rfl rfl) ?_
  refine Gx.valg rfl rfl rfl rfl rfl (val_call (vs := [u3, av]) rfl Try.fn14 rfl (fun w H => leq_any ((H.at_ (k := 0) rfl).sls (by first | omega | (rw [near_len (by omega)]; omega) | (rw [full_len]; omega) | (rw [List.length_set]; omega) | (simp; omega))) (ha.below H.below))) ?_
  refine Gx.valg rfl rfl rfl rfl rfl (val_not rfl rfl) ?_
  refine Gx.val rfl rfl rfl (val_pickF rfl rfl rfl) ?_
  refine Gx.done ?_
  refine Gx.thenN ?_
  refine Gx.boolF rfl ((by rw [((leqB_iff (by omega)).2 hjd4.le)]; rfl)) ?_
  refine Gx.skip ?_
  refine Gx.thenN ?_
  refine Gx.seq ?_
  refine Gx.seq ?_
  refine Gx.region ?_
  refine Gx.val rfl rfl rfl (val_move rfl rfl) ?_
  refine Gx.val rfl rfl rfl (val_move rfl rfl) ?_
  refine Gx.val rfl rfl rfl (val_move rfl rfl) ?_
  refine Gx.val rfl rfl rfl (val_call (vs := [.int .i64 ((n : Nat) : Int), hv, bv]) rfl Try.fn9 rfl (fun w H => cut_no hok hcb (sls_raw.1 (sls_raw.2 (hs.below H.below))) (hb.below H.below))) ?_
  refine Gx.val rfl rfl rfl (Val.cast (val_not rfl rfl) (v' := .bool true) rfl) ?_
  refine Gx.val rfl rfl rfl (val_move rfl rfl) ?_
  refine Gx.skipg rfl rfl rfl rfl rfl rfl ?_
  refine Gx.skipg rfl rfl rfl rfl rfl rfl ?_
  refine Gx.skipg rfl rfl rfl rfl rfl rfl ?_
  refine Gx.skipg rfl rfl rfl rfl rfl rfl ?_
  refine Gx.val rfl rfl rfl (val_pickT rfl rfl rfl) ?_
  refine Gx.done ?_
  refine Gx.thenN ?_
  refine Gx.t rfl ?_
  refine Gx.seq ?_
  refine Gx.region ?_
  refine Gx.val rfl rfl rfl (val_assign rfl rfl) ?_
  refine Gx.done ?_
  refine Gx.thenN ?_
  refine Gx.ret ?_
  refine Gx.thenR ?_
  refine Gx.ret1 Try.results4 rfl ?_
  rfl

theorem closest_yes {W : World} {n : Nat} {l : List En} {a : List Nat} {b : List Nat} {hv av bv : Value} (hE : OkE (n : Int) (l.map En.raw)) (hok : OkC n l) (hca : Cut n l a) (hcb : Cut n l b) (hs : SlS FEn 3 W hv l) (ha : SlS FN 1 W av a) (hb : SlS FN 1 W bv b) :
    Calls Try.prog 4 #[.int .i64 ((n : Nat) : Int), hv, av, bv] W fun e w' => e = .returned (.bool true) ∧ Below W.heap.size W w' := by
  have hla := hca.len
  have h1n := hok.low
  have h6n := hok.high
  have hlb := hcb.len
  refine calls_pure (Gx.enter (l := []) Try.func4 rfl Try.ntmps4 rfl (Sat.start W) ?_)
  refine Gx.know (m' := [(0, .int .i64 ((n : Nat) : Int)), (1, hv), (2, av), (3, bv)]) (.cons rfl (.cons rfl (.cons rfl (.cons rfl .nil)))) ?_
  refine Gx.seq ?_
  refine Gx.region ?_
  refine Gx.val rfl rfl rfl (val_assign rfl rfl) ?_
  refine Gx.done ?_
  refine Gx.thenN ?_
  refine Gx.seq ?_
  refine Gx.region ?_
  refine Gx.val rfl rfl rfl (val_move rfl rfl) ?_
  refine Gx.val rfl rfl rfl (val_move rfl rfl) ?_
  refine Gx.val rfl rfl rfl (val_move rfl rfl) ?_
  refine Gx.eff rfl rfl rfl (eff_callN (vs := [.int .i64 ((n : Nat) : Int), hv, av]) rfl Try.fn12 rfl (fun w H => grow_any hE hok (hca) (hs.below H.below) (ha.below H.below))) ?_
  rintro _ _ ⟨_, ⟨u1, d2, rfl, rfl, hjd2, hwd2, hiu1⟩, rfl⟩
  refine Gx.norm (l' := [Hp.own FN 1 u1 d2]) rfl ?_
  have hnd2 : d2.length = n := hjd2.cut.len
  refine Gx.val rfl rfl rfl (val_move rfl rfl) ?_
  refine Gx.val rfl rfl rfl (val_extract rfl rfl rfl) ?_
  refine Gx.val rfl rfl rfl (val_extract rfl rfl rfl) ?_
  refine Gx.val rfl rfl rfl (val_assign rfl rfl) ?_
  refine Gx.val rfl rfl rfl (val_assign rfl rfl) ?_
  refine Gx.done ?_
  refine Gx.thenN ?_
  refine Gx.seq ?_
  refine Gx.region ?_
  refine Gx.val rfl rfl rfl (val_move rfl rfl) ?_
  refine Gx.val rfl rfl rfl (val_move rfl rfl) ?_
  refine Gx.val rfl rfl rfl (val_move rfl rfl) ?_
  refine Gx.eff rfl rfl rfl (eff_callN (vs := [.int .i64 ((n : Nat) : Int), hv, av]) rfl Try.fn13 rfl (fun w H => shrink_any hE hok (hca) (hs.below H.below) (ha.below H.below))) ?_
  rintro _ _ ⟨_, ⟨u3, d4, rfl, rfl, hjd4, hwd4, hiu3⟩, rfl⟩
  refine Gx.norm (l' := [Hp.own FN 1 u3 d4, Hp.own FN 1 u1 d2]) rfl ?_
  have hnd4 : d4.length = n := hjd4.cut.len
  refine Gx.val rfl rfl rfl (val_move rfl rfl) ?_
  refine Gx.val rfl rfl rfl (val_extract rfl rfl rfl) ?_
  refine Gx.val rfl rfl rfl (val_extract rfl rfl rfl) ?_
  refine Gx.val rfl rfl rfl (val_assign rfl rfl) ?_
  refine Gx.val rfl rfl rfl (val_assign rfl rfl) ?_
  refine Gx.done ?_
  refine Gx.thenN ?_
  refine Gx.seq ?_
  refine Gx.seq ?_
  refine Gx.region ?_
  refine Gx.val rfl rfl rfl (val_move rfl rfl) ?_
  refine Gx.val rfl rfl rfl (val_move rfl rfl) ?_
  refine Gx.val rfl rfl rfl (val_call (vs := [.int .i64 ((n : Nat) : Int), hv]) rfl Try.fn8 rfl (fun w H => events_ok hE (sls_raw.2 (hs.below H.below)))) ?_
  refine Gx.val rfl rfl rfl (Val.cast (val_not rfl rfl) (v' := .bool false) rfl) ?_
  refine Gx.val rfl rfl rfl (val_move rfl rfl) ?_
  refine Gx.valg rfl rfl rfl rfl rfl (val_move rfl rfl) ?_
  refine Gx.valg rfl rfl rfl rfl rfl (val_move rfl rfl) ?_
  refine Gx.valg rfl rfl rfl rfl rfl (val_move rfl rfl) ?_
  refine Gx.valg rfl rfl rfl rfl rfl (val_call (vs := [.int .i64 ((n : Nat) : Int), hv, av]) rfl Try.fn9 rfl (fun w H => cut_yes hok hca (hs.below H.below) (ha.below H.below))) ?_
  refine Gx.valg rfl rfl rfl rfl rfl (Val.cast (val_not rfl rfl) (v' := .bool false) rfl) ?_
  refine Gx.val rfl rfl rfl (val_pickF rfl rfl rfl) ?_
  refine Gx.done ?_
  refine Gx.thenN ?_
  refine Gx.f rfl ?_
  refine Gx.skip ?_
  refine Gx.thenN ?_
  refine Gx.seq ?_
  refine Gx.region ?_
  refine Gx.val rfl rfl rfl (val_move rfl rfl) ?_
  refine Gx.val rfl rfl rfl (val_move rfl rfl) ?_
  refine Gx.val rfl rfl rfl (val_move rfl rfl) ?_
  refine Gx.eff rfl rfl rfl (eff_callE (vs := [.int .i64 ((n : Nat) : Int), hv, u1]) rfl Try.fn10 rfl (R := fun v => ∃ t : Bool, v = .tuple #[.bool t, .int .i64 0] ∧ (t = true ↔ Whole l d2)) (fun w H => whole_any hE hok (hjd2.cut) (hs.below H.below) ((H.at_ (k := 1) rfl).sls (by first | omega | (rw [near_len (by omega)]; omega) | (rw [full_len]; omega) | (rw [List.length_set]; omega) | (simp; omega))))) ?_
  rintro _ _ ⟨⟨b5, rfl, hb5⟩, rfl⟩
  refine Gx.val rfl rfl rfl (val_move rfl rfl) ?_
  refine Gx.val rfl rfl rfl (val_extract rfl rfl rfl) ?_
  refine Gx.val rfl rfl rfl (val_extract rfl rfl rfl) ?_
  refine Gx.val rfl rfl rfl (val_assign rfl rfl) ?_
  refine Gx.val rfl rfl rfl (val_assign rfl rfl) ?_
  refine Gx.done ?_
  refine Gx.thenN ?_
  refine Gx.seq ?_
  refine Gx.region ?_
  refine Gx.val rfl rfl rfl (val_move rfl rfl) ?_
  refine Gx.val rfl rfl rfl (val_move rfl rfl) ?_
  refine Gx.val rfl rfl rfl (val_move rfl rfl) ?_
  refine Gx.eff rfl rfl rfl (eff_callE (vs := [.int .i64 ((n : Nat) : Int), hv, u3]) rfl Try.fn10 rfl (R := fun v => ∃ t : Bool, v = .tuple #[.bool t, .int .i64 0] ∧ (t = true ↔ Whole l d4)) (fun w H => whole_any hE hok (hjd4.cut) (hs.below H.below) ((H.at_ (k := 0) rfl).sls (by first | omega | (rw [near_len (by omega)]; omega) | (rw [full_len]; omega) | (rw [List.length_set]; omega) | (simp; omega))))) ?_
  rintro _ _ ⟨⟨b6, rfl, hb6⟩, rfl⟩
  refine Gx.val rfl rfl rfl (val_move rfl rfl) ?_
  refine Gx.val rfl rfl rfl (val_extract rfl rfl rfl) ?_
  refine Gx.val rfl rfl rfl (val_extract rfl rfl rfl) ?_
  refine Gx.val rfl rfl rfl (val_assign rfl rfl) ?_
  refine Gx.val rfl rfl rfl (val_assign rfl rfl) ?_
  refine Gx.done ?_
  refine Gx.thenN ?_
  refine Gx.seq ?_
  refine Gx.seq ?_
  refine Gx.region ?_
  refine Gx.val rfl rfl rfl (val_move rfl rfl) ?_
  refine Gx.val rfl rfl rfl (Val.cast (val_neq rfl rfl rfl) (v' := .bool false) rfl) ?_
  refine Gx.val rfl rfl rfl (val_move rfl rfl) ?_
  refine Gx.valg rfl rfl rfl rfl rfl (val_move rfl rfl) ?_
  refine Gx.valg rfl rfl rfl rfl rfl (Val.cast (val_neq rfl rfl rfl) (v' := .bool false) rfl) ?_
  refine Gx.val rfl rfl rfl (val_pickF rfl rfl rfl) ?_
  refine Gx.val rfl rfl rfl (val_move rfl rfl) ?_
  refine Gx.valg rfl rfl rfl rfl rfl (val_move rfl rfl) ?_
  refine Gx.valg rfl rfl rfl rfl rfl (Val.cast (val_neq rfl rfl rfl) (v' := .bool false) rfl) ?_
  refine Gx.val rfl rfl rfl (val_pickF rfl rfl rfl) ?_
  refine Gx.val rfl rfl rfl (val_move rfl rfl) ?_
  refine Gx.valg rfl rfl rfl rfl rfl (val_move rfl rfl) ?_
  refine Gx.valg rfl rfl rfl rfl rfl (Val.cast (val_neq rfl rfl rfl) (v' := .bool false) rfl) ?_
  refine Gx.val rfl rfl rfl (val_pickF rfl rfl rfl) ?_
  refine Gx.val rfl rfl rfl (val_move rfl rfl) ?_
  refine Gx.valg rfl rfl rfl rfl rfl (val_move rfl rfl) ?_
  refine Gx.valg rfl rfl rfl rfl rfl (val_not rfl rfl) ?_
  refine Gx.val rfl rfl rfl (val_pickF rfl rfl rfl) ?_
  refine Gx.val rfl rfl rfl (val_move rfl rfl) ?_
  refine Gx.slot (t := 80) (v := .bool false) (look_boolF rfl ((by simp [hb5.2 hwd2]))) ?_
  refine Gx.valg rfl rfl rfl rfl rfl (val_move rfl rfl) ?_
  refine Gx.valg rfl rfl rfl rfl rfl (val_not rfl rfl) ?_
  refine Gx.val rfl rfl rfl (val_pickF rfl rfl rfl) ?_
  refine Gx.val rfl rfl rfl (val_move rfl rfl) ?_
  refine Gx.slot (t := 84) (v := .bool false) (look_boolF rfl ((by simp [hb6.2 hwd4]))) ?_
  refine Gx.valg rfl rfl rfl rfl rfl (val_move rfl rfl) ?_
  refine Gx.valg rfl rfl rfl rfl rfl (val_move rfl rfl) ?_
  refine Gx.valg rfl rfl rfl rfl rfl (val_call (vs := [av, u1]) rfl Try.fn14 rfl (fun w H => leq_any (ha.below H.below) ((H.at_ (k := 1) rfl).sls (by first | omega | (rw [near_len (by omega)]; omega) | (rw [full_len]; omega) | (rw [List.length_set]; omega) | (simp; omega))))) ?_
  refine Gx.valg rfl rfl rfl rfl rfl (val_not rfl rfl) ?_
  refine Gx.val rfl rfl rfl (val_pickF rfl rfl rfl) ?_
  refine Gx.val rfl rfl rfl (val_move rfl rfl) ?_
  refine Gx.slot (t := 90) (v := .bool false) (look_boolF rfl ((by simp [(leqB_iff (by omega)).2 hjd2.le]))) ?_
  refine Gx.valg rfl rfl rfl rfl rfl (val_move rfl rfl) ?_
  refine Gx.valg rfl rfl rfl rfl rfl (val_move rfl rfl) ?_
  refine Gx.valg rfl rfl rfl rfl rfl (val_call (vs := [u3, av]) rfl Try.fn14 rfl (fun w H => leq_any ((H.at_ (k := 0) rfl).sls (by first | omega | (rw [near_len (by omega)]; omega) | (rw [full_len]; omega) | (rw [List.length_set]; omega) | (simp; omega))) (ha.below H.below))) ?_
  refine Gx.valg rfl rfl rfl rfl rfl (val_not rfl rfl) ?_
  refine Gx.val rfl rfl rfl (val_pickF rfl rfl rfl) ?_
  refine Gx.done ?_
  refine Gx.thenN ?_
  refine Gx.boolF rfl ((by rw [((leqB_iff (by omega)).2 hjd4.le)]; rfl)) ?_
  refine Gx.skip ?_
  refine Gx.thenN ?_
  refine Gx.seq ?_
  refine Gx.seq ?_
  refine Gx.region ?_
  refine Gx.val rfl rfl rfl (val_move rfl rfl) ?_
  refine Gx.val rfl rfl rfl (val_move rfl rfl) ?_
  refine Gx.val rfl rfl rfl (val_move rfl rfl) ?_
  refine Gx.val rfl rfl rfl (val_call (vs := [.int .i64 ((n : Nat) : Int), hv, bv]) rfl Try.fn9 rfl (fun w H => cut_yes hok hcb (hs.below H.below) (hb.below H.below))) ?_
  refine Gx.val rfl rfl rfl (Val.cast (val_not rfl rfl) (v' := .bool false) rfl) ?_
  refine Gx.val rfl rfl rfl (val_move rfl rfl) ?_
  refine Gx.valg rfl rfl rfl rfl rfl (val_move rfl rfl) ?_
  refine Gx.valg rfl rfl rfl rfl rfl (val_move rfl rfl) ?_
  refine Gx.effg rfl rfl rfl rfl rfl (eff_callE (vs := [hv, bv]) rfl Try.fn15 rfl (R := fun v => ∃ t : Bool, v = .bool t ∧ (t = true ↔ Whole l b)) (fun w H => refwhole_any hok hcb (hs.below H.below) (hb.below H.below))) ?_
  rintro _ _ ⟨⟨bw, rfl, hbw⟩, rfl⟩
  refine Gx.valg rfl rfl rfl rfl rfl (val_not rfl rfl) ?_
  refine Gx.val rfl rfl rfl (val_pickF rfl rfl rfl) ?_
  refine Gx.done ?_
  refine Gx.thenN ?_
  refine Gx.bool rfl (fun h7 => ?_) (fun h7 => ?_)
  · refine Gx.seq ?_
    refine Gx.region ?_
    refine Gx.val rfl rfl rfl (val_assign rfl rfl) ?_
    refine Gx.done ?_
    refine Gx.thenN ?_
    refine Gx.ret ?_
    refine Gx.thenR ?_
    refine Gx.ret1 Try.results4 rfl ?_
    rfl
  · refine Gx.skip ?_
    refine Gx.thenN ?_
    refine Gx.seq ?_
    refine Gx.region ?_
    refine Gx.val rfl rfl rfl (val_move rfl rfl) ?_
    refine Gx.val rfl rfl rfl (val_move rfl rfl) ?_
    refine Gx.val rfl rfl rfl (val_call (vs := [av, bv]) rfl Try.fn14 rfl (fun w H => leq_any (ha.below H.below) (hb.below H.below))) ?_
    refine Gx.val rfl rfl rfl (val_not rfl rfl) ?_
    refine Gx.val rfl rfl rfl (val_move rfl rfl) ?_
    refine Gx.casesB (t := 111) rfl (fun h8 => ?_) (fun h8 => ?_)
    · refine Gx.skipg rfl rfl rfl rfl rfl rfl ?_
      refine Gx.skipg rfl rfl rfl rfl rfl rfl ?_
      refine Gx.skipg rfl rfl rfl rfl rfl rfl ?_
      refine Gx.val rfl rfl rfl (val_pickT rfl rfl rfl) ?_
      refine Gx.val rfl rfl rfl (val_move rfl rfl) ?_
      refine Gx.valg rfl rfl rfl rfl rfl (val_move rfl rfl) ?_
      refine Gx.valg rfl rfl rfl rfl rfl (val_move rfl rfl) ?_
      refine Gx.valg rfl rfl rfl rfl rfl (val_call (vs := [bv, av]) rfl Try.fn14 rfl (fun w H => leq_any (hb.below H.below) (ha.below H.below))) ?_
      refine Gx.valg rfl rfl rfl rfl rfl (val_not rfl rfl) ?_
      refine Gx.valg rfl rfl rfl rfl rfl (val_move rfl rfl) ?_
      refine Gx.casesB (t := 121) rfl (fun h9 => ?_) (fun h9 => ?_)
      · refine Gx.skipg rfl rfl rfl rfl rfl rfl ?_
        refine Gx.skipg rfl rfl rfl rfl rfl rfl ?_
        refine Gx.skipg rfl rfl rfl rfl rfl rfl ?_
        refine Gx.valg rfl rfl rfl rfl rfl (val_pickT rfl rfl rfl) ?_
        refine Gx.val rfl rfl rfl (val_pickT rfl rfl rfl) ?_
        refine Gx.val rfl rfl rfl (val_assign rfl rfl) ?_
        refine Gx.done ?_
        refine Gx.thenN ?_
        refine Gx.ret ?_
        refine Gx.ret1 Try.results4 rfl ?_
        rfl
      · refine Gx.valg rfl rfl rfl rfl rfl (val_move rfl rfl) ?_
        refine Gx.valg rfl rfl rfl rfl rfl (val_move rfl rfl) ?_
        refine Gx.valg rfl rfl rfl rfl rfl (val_call (vs := [bv, u3]) rfl Try.fn14 rfl (fun w H => leq_any (hb.below H.below) ((H.at_ (k := 0) rfl).sls (by first | omega | (rw [near_len (by omega)]; omega) | (rw [full_len]; omega) | (rw [List.length_set]; omega) | (simp; omega))))) ?_
        refine Gx.valg rfl rfl rfl rfl rfl (val_pickF rfl rfl rfl) ?_
        refine Gx.val rfl rfl rfl (val_pickT rfl rfl rfl) ?_
        refine Gx.val rfl rfl rfl (val_assign rfl rfl) ?_
        refine Gx.done ?_
        refine Gx.thenN ?_
        refine Gx.ret ?_
        refine Gx.ret1 Try.results4 rfl ?_
        exact congrArg Value.bool ((leqB_iff (by omega)).2 (hjd4.most b (hbw.1 (by simpa using h7)) ((leqB_iff (by omega)).1 (by simp_all))))
    · refine Gx.valg rfl rfl rfl rfl rfl (val_move rfl rfl) ?_
      refine Gx.valg rfl rfl rfl rfl rfl (val_move rfl rfl) ?_
      refine Gx.valg rfl rfl rfl rfl rfl (val_call (vs := [u1, bv]) rfl Try.fn14 rfl (fun w H => leq_any ((H.at_ (k := 1) rfl).sls (by first | omega | (rw [near_len (by omega)]; omega) | (rw [full_len]; omega) | (rw [List.length_set]; omega) | (simp; omega))) (hb.below H.below))) ?_
      refine Gx.val rfl rfl rfl (val_pickF rfl rfl rfl) ?_
      refine Gx.val rfl rfl rfl (val_move rfl rfl) ?_
      refine Gx.slot (t := 116) (v := .bool true) (look_boolT rfl (((leqB_iff (by omega)).2 (hjd2.least b (hbw.1 (by simpa using h7)) ((leqB_iff (by omega)).1 (by simpa using h8)))))) ?_
      refine Gx.valg rfl rfl rfl rfl rfl (val_move rfl rfl) ?_
      refine Gx.valg rfl rfl rfl rfl rfl (val_move rfl rfl) ?_
      refine Gx.valg rfl rfl rfl rfl rfl (val_call (vs := [bv, av]) rfl Try.fn14 rfl (fun w H => leq_any (hb.below H.below) (ha.below H.below))) ?_
      refine Gx.valg rfl rfl rfl rfl rfl (val_not rfl rfl) ?_
      refine Gx.valg rfl rfl rfl rfl rfl (val_move rfl rfl) ?_
      refine Gx.casesB (t := 121) rfl (fun h10 => ?_) (fun h10 => ?_)
      · refine Gx.skipg rfl rfl rfl rfl rfl rfl ?_
        refine Gx.skipg rfl rfl rfl rfl rfl rfl ?_
        refine Gx.skipg rfl rfl rfl rfl rfl rfl ?_
        refine Gx.valg rfl rfl rfl rfl rfl (val_pickT rfl rfl rfl) ?_
        refine Gx.val rfl rfl rfl (val_pickT rfl rfl rfl) ?_
        refine Gx.val rfl rfl rfl (val_assign rfl rfl) ?_
        refine Gx.done ?_
        refine Gx.thenN ?_
        refine Gx.ret ?_
        refine Gx.ret1 Try.results4 rfl ?_
        rfl
      · refine Gx.valg rfl rfl rfl rfl rfl (val_move rfl rfl) ?_
        refine Gx.valg rfl rfl rfl rfl rfl (val_move rfl rfl) ?_
        refine Gx.valg rfl rfl rfl rfl rfl (val_call (vs := [bv, u3]) rfl Try.fn14 rfl (fun w H => leq_any (hb.below H.below) ((H.at_ (k := 0) rfl).sls (by first | omega | (rw [near_len (by omega)]; omega) | (rw [full_len]; omega) | (rw [List.length_set]; omega) | (simp; omega))))) ?_
        refine Gx.valg rfl rfl rfl rfl rfl (val_pickF rfl rfl rfl) ?_
        refine Gx.val rfl rfl rfl (val_pickT rfl rfl rfl) ?_
        refine Gx.val rfl rfl rfl (val_assign rfl rfl) ?_
        refine Gx.done ?_
        refine Gx.thenN ?_
        refine Gx.ret ?_
        refine Gx.ret1 Try.results4 rfl ?_
        exact congrArg Value.bool ((leqB_iff (by omega)).2 (hjd4.most b (hbw.1 (by simpa using h7)) ((leqB_iff (by omega)).1 (by simp_all))))

theorem closest_any {W : World} {n : Int} {r : List Ev} {a b : List Int} {hv av bv : Value} (hs : SlS FE 3 W hv r) (ha : SlS FZ 1 W av a) (hb : SlS FZ 1 W bv b) :
    Calls Try.prog 4 #[.int .i64 n, hv, av, bv] W fun e w' => e = .returned (.bool true) ∧ Below W.heap.size W w' := by
  by_cases hE : OkE n r
  · obtain ⟨m, l, rfl, rfl, hE, hok⟩ := ok_of hE
    by_cases h1 : CutZ m l a
    · obtain ⟨d1, rfl, h3⟩ := cut_of h1
      by_cases h2 : CutZ m l b
      · obtain ⟨d2, rfl, h4⟩ := cut_of h2
        exact closest_yes hE hok h3 h4 (sls_raw.1 hs) (sls_nat.2 ha) (sls_nat.2 hb)
      · exact closest_nb hE hok h3 h2 (sls_raw.1 hs) (sls_nat.2 ha) hb
    · exact closest_un hE hok (fun h => h1 ((GoodC.iff hE hok).1 h)) hs ha hb
  · exact closest_no hE (fun h1 => by obtain ⟨_, _, _, _, _, h3, _⟩ := h1; exact hE h3) hs ha hb
end Go.Proofs.Ytffnjojdjbdfcaa
