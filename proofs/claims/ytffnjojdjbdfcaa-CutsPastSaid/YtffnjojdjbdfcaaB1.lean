/- What two whole cuts have in common, and what either has, is whole. The walks. No condition. -/
import Derived.Test.YtffnjojdjbdfcaaD3
namespace Go.Proofs.Ytffnjojdjbdfcaa
open Go.RowKit
set_option linter.unusedVariables false
set_option linter.unusedSimpArgs false
set_option maxRecDepth 100000

theorem lattice_no {W : World} {n : Int} {r : List Ev} {a b : List Int} {hv av bv : Value} (hE : ¬ OkE n r) (hn : GoodC n r a → GoodC n r b → False) (hs : SlS FE 3 W hv r) (ha : SlS FZ 1 W av a) (hb : SlS FZ 1 W bv b) :
    Calls Try.prog 3 #[.int .i64 n, hv, av, bv] W fun e w' => e = .returned (.bool true) ∧ Below W.heap.size W w' := by
  refine calls_pure (Gx.enter (l := []) Try.func3 rfl Try.ntmps3 rfl (Sat.start W) ?_)
  refine Gx.know (m' := [(0, .int .i64 n), (1, hv), (2, av), (3, bv)]) (.cons rfl (.cons rfl (.cons rfl (.cons rfl .nil)))) ?_
  refine Gx.seq ?_
  refine Gx.region ?_
  refine Gx.val rfl rfl rfl (val_assign rfl rfl) ?_
  refine Gx.done ?_
  refine Gx.thenN ?_
  refine Gx.seq ?_
  refine Gx.seq ?_
  refine Gx.region ?_
  refine Gx.val rfl rfl rfl (val_move rfl rfl) ?_
  refine Gx.val rfl rfl rfl (val_move rfl rfl) ?_
  refine Gx.val rfl rfl rfl (val_call (vs := [.int .i64 n, hv]) rfl Try.fn8 rfl (fun w H => events_no hE (hs.below H.below))) ?_
  refine Gx.val rfl rfl rfl (Val.cast (val_not rfl rfl) (v' := .bool true) rfl) ?_
  refine Gx.val rfl rfl rfl (val_move rfl rfl) ?_
  refine Gx.skipg rfl rfl rfl rfl rfl rfl ?_
  refine Gx.skipg rfl rfl rfl rfl rfl rfl ?_
  refine Gx.skipg rfl rfl rfl rfl rfl rfl ?_
  refine Gx.skipg rfl rfl rfl rfl rfl rfl ?_
  refine Gx.skipg rfl rfl rfl rfl rfl rfl ?_
  refine Gx.val rfl rfl rfl (val_pickT rfl rfl rfl) ?_
  refine Gx.val rfl rfl rfl (val_move rfl rfl) ?_
  refine Gx.skipg rfl rfl rfl rfl rfl rfl ?_
  refine Gx.skipg rfl rfl rfl rfl rfl rfl ?_
  refine Gx.skipg rfl rfl rfl rfl rfl rfl ?_
  refine Gx.skipg rfl rfl rfl rfl rfl rfl ?_
  refine Gx.skipg rfl rfl rfl rfl rfl rfl ?_
  refine Gx.val rfl rfl rfl (val_pickT rfl rfl rfl) ?_
  refine Gx.done ?_
  refine Gx.thenN ?_
  refine Gx.t rfl ?_
  refine Gx.seq ?_
  refine Gx.region ?_
  refine Gx.val rfl rfl rfl (val_move rfl rfl) ?_
  refine Gx.val rfl rfl rfl (val_move rfl rfl) ?_
  refine Gx.val rfl rfl rfl (val_move rfl rfl) ?_
  refine Gx.eff rfl rfl rfl (eff_callE (vs := [.int .i64 n, hv, av]) rfl Try.fn10 rfl (R := fun v => ∃ (t : Bool) (z : Int), v = .tuple #[.bool t, .int .i64 z] ∧ (z = 0 → GoodC n r a)) (fun w H => whole_some (hs.below H.below) (ha.below H.below))) ?_
  rintro _ _ ⟨⟨b1, z2, rfl, hz2⟩, rfl⟩
  refine Gx.val rfl rfl rfl (val_move rfl rfl) ?_
  refine Gx.val rfl rfl rfl (val_extract rfl rfl rfl) ?_
  refine Gx.val rfl rfl rfl (val_extract rfl rfl rfl) ?_
  refine Gx.val rfl rfl rfl (val_assign rfl rfl) ?_
  refine Gx.val rfl rfl rfl (val_assign rfl rfl) ?_
  refine Gx.done ?_
  refine Gx.thenN ?_
  refine Gx.seq ?_
  refine Gx.region ?_
  refine Gx.val rfl rfl rfl (val_move rfl rfl) ?_
  refine Gx.val rfl rfl rfl (val_move rfl rfl) ?_
  refine Gx.val rfl rfl rfl (val_move rfl rfl) ?_
  refine Gx.eff rfl rfl rfl (eff_callE (vs := [.int .i64 n, hv, bv]) rfl Try.fn10 rfl (R := fun v => ∃ (t : Bool) (z : Int), v = .tuple #[.bool t, .int .i64 z] ∧ (z = 0 → GoodC n r b)) (fun w H => whole_some (hs.below H.below) (hb.below H.below))) ?_
  rintro _ _ ⟨⟨b3, z4, rfl, hz4⟩, rfl⟩
  refine Gx.val rfl rfl rfl (val_move rfl rfl) ?_
  refine Gx.val rfl rfl rfl (val_extract rfl rfl rfl) ?_
  refine Gx.val rfl rfl rfl (val_extract rfl rfl rfl) ?_
  refine Gx.val rfl rfl rfl (val_assign rfl rfl) ?_
  refine Gx.val rfl rfl rfl (val_assign rfl rfl) ?_
  refine Gx.done ?_
  refine Gx.thenN ?_
  refine Gx.seq ?_
  refine Gx.region ?_
  refine Gx.val rfl rfl rfl (val_move rfl rfl) ?_
  refine Gx.val rfl rfl rfl (val_neq rfl rfl rfl) ?_
  refine Gx.val rfl rfl rfl (val_move rfl rfl) ?_
  refine Gx.cases (t := 55) rfl (fun h5 => ?_) (fun h5 => ?_)
  · refine Gx.skipg rfl rfl rfl rfl rfl rfl ?_
    refine Gx.skipg rfl rfl rfl rfl rfl rfl ?_
    refine Gx.val rfl rfl rfl (val_pickT rfl rfl rfl) ?_
    refine Gx.val rfl rfl rfl (val_assign rfl rfl) ?_
    refine Gx.done ?_
    refine Gx.thenN ?_
    refine Gx.ret ?_
    refine Gx.thenR ?_
    refine Gx.ret1 Try.results3 rfl ?_
    rfl
  · refine Gx.valg rfl rfl rfl rfl rfl (val_move rfl rfl) ?_
    refine Gx.valg rfl rfl rfl rfl rfl (val_neq rfl rfl rfl) ?_
    refine Gx.val rfl rfl rfl (val_pickF rfl rfl rfl) ?_
    refine Gx.val rfl rfl rfl (val_assign rfl rfl) ?_
    refine Gx.done ?_
    refine Gx.thenN ?_
    refine Gx.ret ?_
    refine Gx.thenR ?_
    refine Gx.ret1 Try.results3 rfl ?_
    exact congrArg Value.bool (decide_eq_true (fun q => hn (hz2 (by omega)) (hz4 q)))

theorem lattice_un {W : World} {n : Nat} {l : List En} {a b : List Int} {hv av bv : Value} (hE : OkE (n : Int) (l.map En.raw)) (hok : OkC n l) (hn : GoodC n (l.map En.raw) a → GoodC n (l.map En.raw) b → False) (hs : SlS FE 3 W hv (l.map En.raw)) (ha : SlS FZ 1 W av a) (hb : SlS FZ 1 W bv b) :
    Calls Try.prog 3 #[.int .i64 ((n : Nat) : Int), hv, av, bv] W fun e w' => e = .returned (.bool true) ∧ Below W.heap.size W w' := by
  refine calls_pure (Gx.enter (l := []) Try.func3 rfl Try.ntmps3 rfl (Sat.start W) ?_)
  refine Gx.know (m' := [(0, .int .i64 ((n : Nat) : Int)), (1, hv), (2, av), (3, bv)]) (.cons rfl (.cons rfl (.cons rfl (.cons rfl .nil)))) ?_
  refine Gx.seq ?_
  refine Gx.region ?_
  refine Gx.val rfl rfl rfl (val_assign rfl rfl) ?_
  refine Gx.done ?_
  refine Gx.thenN ?_
  refine Gx.seq ?_
  refine Gx.seq ?_
  refine Gx.region ?_
  refine Gx.val rfl rfl rfl (val_move rfl rfl) ?_
  refine Gx.val rfl rfl rfl (val_move rfl rfl) ?_
  refine Gx.val rfl rfl rfl (val_call (vs := [.int .i64 ((n : Nat) : Int), hv]) rfl Try.fn8 rfl (fun w H => events_ok hE (hs.below H.below))) ?_
  refine Gx.val rfl rfl rfl (Val.cast (val_not rfl rfl) (v' := .bool false) rfl) ?_
  refine Gx.val rfl rfl rfl (val_move rfl rfl) ?_
  refine Gx.valg rfl rfl rfl rfl rfl (val_move rfl rfl) ?_
  refine Gx.valg rfl rfl rfl rfl rfl (val_move rfl rfl) ?_
  refine Gx.valg rfl rfl rfl rfl rfl (val_move rfl rfl) ?_
  refine Gx.effg rfl rfl rfl rfl rfl (eff_callE (vs := [.int .i64 ((n : Nat) : Int), hv, av]) rfl Try.fn9 rfl (R := fun v => ∃ t : Bool, v = .bool t ∧ (t = true ↔ CutZ n l a)) (fun w H => cut_any hok (sls_raw.1 (hs.below H.below)) (ha.below H.below))) ?_
  rintro _ _ ⟨⟨b1, rfl, hb1⟩, rfl⟩
  refine Gx.valg rfl rfl rfl rfl rfl (val_not rfl rfl) ?_
  refine Gx.val rfl rfl rfl (val_pickF rfl rfl rfl) ?_
  refine Gx.val rfl rfl rfl (val_move rfl rfl) ?_
  refine Gx.casesB (t := 32) rfl (fun h2 => ?_) (fun h2 => ?_)
  · refine Gx.skipg rfl rfl rfl rfl rfl rfl ?_
    refine Gx.skipg rfl rfl rfl rfl rfl rfl ?_
    refine Gx.skipg rfl rfl rfl rfl rfl rfl ?_
    refine Gx.skipg rfl rfl rfl rfl rfl rfl ?_
    refine Gx.skipg rfl rfl rfl rfl rfl rfl ?_
    refine Gx.val rfl rfl rfl (val_pickT rfl rfl rfl) ?_
    refine Gx.done ?_
    refine Gx.thenN ?_
    refine Gx.t rfl ?_
    refine Gx.seq ?_
    refine Gx.region ?_
    refine Gx.val rfl rfl rfl (val_move rfl rfl) ?_
    refine Gx.val rfl rfl rfl (val_move rfl rfl) ?_
    refine Gx.val rfl rfl rfl (val_move rfl rfl) ?_
    refine Gx.eff rfl rfl rfl (eff_callE (vs := [.int .i64 ((n : Nat) : Int), hv, av]) rfl Try.fn10 rfl (R := fun v => ∃ (t : Bool) (z : Int), v = .tuple #[.bool t, .int .i64 z] ∧ (z = 0 → GoodC ((n : Nat) : Int) (l.map En.raw) a)) (fun w H => whole_some (hs.below H.below) (ha.below H.below))) ?_
    rintro _ _ ⟨⟨b3, z4, rfl, hz4⟩, rfl⟩
    refine Gx.val rfl rfl rfl (val_move rfl rfl) ?_
    refine Gx.val rfl rfl rfl (val_extract rfl rfl rfl) ?_
    refine Gx.val rfl rfl rfl (val_extract rfl rfl rfl) ?_
    refine Gx.val rfl rfl rfl (val_assign rfl rfl) ?_
    refine Gx.val rfl rfl rfl (val_assign rfl rfl) ?_
    refine Gx.done ?_
    refine Gx.thenN ?_
    refine Gx.seq ?_
    refine Gx.region ?_
    refine Gx.val rfl rfl rfl (val_move rfl rfl) ?_
    refine Gx.val rfl rfl rfl (val_move rfl rfl) ?_
    refine Gx.val rfl rfl rfl (val_move rfl rfl) ?_
    refine Gx.eff rfl rfl rfl (eff_callE (vs := [.int .i64 ((n : Nat) : Int), hv, bv]) rfl Try.fn10 rfl (R := fun v => ∃ (t : Bool) (z : Int), v = .tuple #[.bool t, .int .i64 z] ∧ (z = 0 → GoodC ((n : Nat) : Int) (l.map En.raw) b)) (fun w H => whole_some (hs.below H.below) (hb.below H.below))) ?_
    rintro _ _ ⟨⟨b5, z6, rfl, hz6⟩, rfl⟩
    refine Gx.val rfl rfl rfl (val_move rfl rfl) ?_
    refine Gx.val rfl rfl rfl (val_extract rfl rfl rfl) ?_
    refine Gx.val rfl rfl rfl (val_extract rfl rfl rfl) ?_
    refine Gx.val rfl rfl rfl (val_assign rfl rfl) ?_
    refine Gx.val rfl rfl rfl (val_assign rfl rfl) ?_
    refine Gx.done ?_
    refine Gx.thenN ?_
    refine Gx.seq ?_
    refine Gx.region ?_
    refine Gx.val rfl rfl rfl (val_move rfl rfl) ?_
    refine Gx.val rfl rfl rfl (val_neq rfl rfl rfl) ?_
    refine Gx.val rfl rfl rfl (val_move rfl rfl) ?_
    refine Gx.cases (t := 55) rfl (fun h7 => ?_) (fun h7 => ?_)
    · refine Gx.skipg rfl rfl rfl rfl rfl rfl ?_
      refine Gx.skipg rfl rfl rfl rfl rfl rfl ?_
      refine Gx.val rfl rfl rfl (val_pickT rfl rfl rfl) ?_
      refine Gx.val rfl rfl rfl (val_assign rfl rfl) ?_
      refine Gx.done ?_
      refine Gx.thenN ?_
      refine Gx.ret ?_
      refine Gx.thenR ?_
      refine Gx.ret1 Try.results3 rfl ?_
      rfl
    · refine Gx.valg rfl rfl rfl rfl rfl (val_move rfl rfl) ?_
      refine Gx.valg rfl rfl rfl rfl rfl (val_neq rfl rfl rfl) ?_
      refine Gx.val rfl rfl rfl (val_pickF rfl rfl rfl) ?_
      refine Gx.val rfl rfl rfl (val_assign rfl rfl) ?_
      refine Gx.done ?_
      refine Gx.thenN ?_
      refine Gx.ret ?_
      refine Gx.thenR ?_
      refine Gx.ret1 Try.results3 rfl ?_
      exact congrArg Value.bool (decide_eq_true (fun q => hn (hz4 (by omega)) (hz6 q)))
  · refine Gx.valg rfl rfl rfl rfl rfl (val_move rfl rfl) ?_
    refine Gx.valg rfl rfl rfl rfl rfl (val_move rfl rfl) ?_
    refine Gx.valg rfl rfl rfl rfl rfl (val_move rfl rfl) ?_
    refine Gx.effg rfl rfl rfl rfl rfl (eff_callE (vs := [.int .i64 ((n : Nat) : Int), hv, bv]) rfl Try.fn9 rfl (R := fun v => ∃ t : Bool, v = .bool t ∧ (t = true ↔ CutZ n l b)) (fun w H => cut_any hok (sls_raw.1 (hs.below H.below)) (hb.below H.below))) ?_
    rintro _ _ ⟨⟨b8, rfl, hb8⟩, rfl⟩
    refine Gx.valg rfl rfl rfl rfl rfl (val_not rfl rfl) ?_
    refine Gx.val rfl rfl rfl (val_pickF rfl rfl rfl) ?_
    refine Gx.done ?_
    refine Gx.thenN ?_
    refine Gx.bool rfl (fun h9 => ?_) (fun h9 => ?_)
    · refine Gx.seq ?_
      refine Gx.region ?_
      refine Gx.val rfl rfl rfl (val_move rfl rfl) ?_
      refine Gx.val rfl rfl rfl (val_move rfl rfl) ?_
      refine Gx.val rfl rfl rfl (val_move rfl rfl) ?_
      refine Gx.eff rfl rfl rfl (eff_callE (vs := [.int .i64 ((n : Nat) : Int), hv, av]) rfl Try.fn10 rfl (R := fun v => ∃ (t : Bool) (z : Int), v = .tuple #[.bool t, .int .i64 z] ∧ (z = 0 → GoodC ((n : Nat) : Int) (l.map En.raw) a)) (fun w H => whole_some (hs.below H.below) (ha.below H.below))) ?_
      rintro _ _ ⟨⟨b10, z11, rfl, hz11⟩, rfl⟩
      refine Gx.val rfl rfl rfl (val_move rfl rfl) ?_
      refine Gx.val rfl rfl rfl (val_extract rfl rfl rfl) ?_
      refine Gx.val rfl rfl rfl (val_extract rfl rfl rfl) ?_
      refine Gx.val rfl rfl rfl (val_assign rfl rfl) ?_
      refine Gx.val rfl rfl rfl (val_assign rfl rfl) ?_
      refine Gx.done ?_
      refine Gx.thenN ?_
      refine Gx.seq ?_
      refine Gx.region ?_
      refine Gx.val rfl rfl rfl (val_move rfl rfl) ?_
      refine Gx.val rfl rfl rfl (val_move rfl rfl) ?_
      refine Gx.val rfl rfl rfl (val_move rfl rfl) ?_
      refine Gx.eff rfl rfl rfl (eff_callE (vs := [.int .i64 ((n : Nat) : Int), hv, bv]) rfl Try.fn10 rfl (R := fun v => ∃ (t : Bool) (z : Int), v = .tuple #[.bool t, .int .i64 z] ∧ (z = 0 → GoodC ((n : Nat) : Int) (l.map En.raw) b)) (fun w H => whole_some (hs.below H.below) (hb.below H.below))) ?_
      rintro _ _ ⟨⟨b12, z13, rfl, hz13⟩, rfl⟩
      refine Gx.val rfl rfl rfl (val_move rfl rfl) ?_
      refine Gx.val rfl rfl rfl (val_extract rfl rfl rfl) ?_
      refine Gx.val rfl rfl rfl (val_extract rfl rfl rfl) ?_
      refine Gx.val rfl rfl rfl (val_assign rfl rfl) ?_
      refine Gx.val rfl rfl rfl (val_assign rfl rfl) ?_
      refine Gx.done ?_
      refine Gx.thenN ?_
      refine Gx.seq ?_
      refine Gx.region ?_
      refine Gx.val rfl rfl rfl (val_move rfl rfl) ?_
      refine Gx.val rfl rfl rfl (val_neq rfl rfl rfl) ?_
      refine Gx.val rfl rfl rfl (val_move rfl rfl) ?_
      refine Gx.cases (t := 55) rfl (fun h14 => ?_) (fun h14 => ?_)
      · refine Gx.skipg rfl rfl rfl rfl rfl rfl ?_
        refine Gx.skipg rfl rfl rfl rfl rfl rfl ?_
        refine Gx.val rfl rfl rfl (val_pickT rfl rfl rfl) ?_
        refine Gx.val rfl rfl rfl (val_assign rfl rfl) ?_
        refine Gx.done ?_
        refine Gx.thenN ?_
        refine Gx.ret ?_
        refine Gx.thenR ?_
        refine Gx.ret1 Try.results3 rfl ?_
        rfl
      · refine Gx.valg rfl rfl rfl rfl rfl (val_move rfl rfl) ?_
        refine Gx.valg rfl rfl rfl rfl rfl (val_neq rfl rfl rfl) ?_
        refine Gx.val rfl rfl rfl (val_pickF rfl rfl rfl) ?_
        refine Gx.val rfl rfl rfl (val_assign rfl rfl) ?_
        refine Gx.done ?_
        refine Gx.thenN ?_
        refine Gx.ret ?_
        refine Gx.thenR ?_
        refine Gx.ret1 Try.results3 rfl ?_
        exact congrArg Value.bool (decide_eq_true (fun q => hn (hz11 (by omega)) (hz13 q)))
    · exfalso; exact hn ((GoodC.iff hE hok).2 (hb1.1 (by simp_all))) ((GoodC.iff hE hok).2 (hb8.1 (by simp_all)))

theorem cut_yes {W : World} {n : Nat} {l : List En} {c : List Nat} {hv cv : Value} (hok : OkC n l) (hc : Cut n l c) (hs : SlS FEn 3 W hv l) (hcv : SlS FN 1 W cv c) : Calls Try.prog 9 #[.int .i64 ((n : Nat) : Int), hv, cv] W fun e w' => e = .returned (.bool true) ∧ Below W.heap.size W w' :=
  (cut_any hok hs (sls_nat.1 hcv)).mono fun e w' ⟨v, he, ⟨b, hv, hb⟩, hw⟩ => ⟨by rw [he, hv, hb.2 (cutZ_of hc)], hw⟩
theorem lattice_yes {W : World} {n : Nat} {l : List En} {a b : List Nat} {hv av bv : Value} (hE : OkE (n : Int) (l.map En.raw)) (hok : OkC n l) (hca : Cut n l a) (hcb : Cut n l b) (hs : SlS FEn 3 W hv l) (ha : SlS FN 1 W av a) (hb : SlS FN 1 W bv b) :
    Calls Try.prog 3 #[.int .i64 ((n : Nat) : Int), hv, av, bv] W fun e w' => e = .returned (.bool true) ∧ Below W.heap.size W w' := by
  have hla := hca.len
  have hlb := hcb.len
  have h1n := hok.low
  have h6n := hok.high
  refine calls_pure (Gx.enter (l := []) Try.func3 rfl Try.ntmps3 rfl (Sat.start W) ?_)
  refine Gx.know (m' := [(0, .int .i64 ((n : Nat) : Int)), (1, hv), (2, av), (3, bv)]) (.cons rfl (.cons rfl (.cons rfl (.cons rfl .nil)))) ?_
  refine Gx.seq ?_
  refine Gx.region ?_
  refine Gx.val rfl rfl rfl (val_assign rfl rfl) ?_
  refine Gx.done ?_
  refine Gx.thenN ?_
  refine Gx.seq ?_
  refine Gx.seq ?_
  refine Gx.region ?_
  refine Gx.val rfl rfl rfl (val_move rfl rfl) ?_
  refine Gx.val rfl rfl rfl (val_move rfl rfl) ?_
  refine Gx.val rfl rfl rfl (val_call (vs := [.int .i64 ((n : Nat) : Int), hv]) rfl Try.fn8 rfl (fun w H => events_ok hE (sls_raw.2 (hs.below H.below)))) ?_
  refine Gx.val rfl rfl rfl (Val.cast (val_not rfl rfl) (v' := .bool false) rfl) ?_
  refine Gx.val rfl rfl rfl (val_move rfl rfl) ?_
  refine Gx.valg rfl rfl rfl rfl rfl (val_move rfl rfl) ?_
  refine Gx.valg rfl rfl rfl rfl rfl (val_move rfl rfl) ?_
  refine Gx.valg rfl rfl rfl rfl rfl (val_move rfl rfl) ?_
  refine Gx.valg rfl rfl rfl rfl rfl (val_call (vs := [.int .i64 ((n : Nat) : Int), hv, av]) rfl Try.fn9 rfl (fun w H => cut_yes hok hca (hs.below H.below) (ha.below H.below))) ?_
  refine Gx.valg rfl rfl rfl rfl rfl (Val.cast (val_not rfl rfl) (v' := .bool false) rfl) ?_
  refine Gx.val rfl rfl rfl (val_pickF rfl rfl rfl) ?_
  refine Gx.val rfl rfl rfl (val_move rfl rfl) ?_
  refine Gx.valg rfl rfl rfl rfl rfl (val_move rfl rfl) ?_
  refine Gx.valg rfl rfl rfl rfl rfl (val_move rfl rfl) ?_
  refine Gx.valg rfl rfl rfl rfl rfl (val_move rfl rfl) ?_
  refine Gx.valg rfl rfl rfl rfl rfl (val_call (vs := [.int .i64 ((n : Nat) : Int), hv, bv]) rfl Try.fn9 rfl (fun w H => cut_yes hok hcb (hs.below H.below) (hb.below H.below))) ?_
  refine Gx.valg rfl rfl rfl rfl rfl (Val.cast (val_not rfl rfl) (v' := .bool false) rfl) ?_
  refine Gx.val rfl rfl rfl (val_pickF rfl rfl rfl) ?_
  refine Gx.done ?_
  refine Gx.thenN ?_
  refine Gx.f rfl ?_
  refine Gx.skip ?_
  refine Gx.thenN ?_
  refine Gx.seq ?_
  refine Gx.region ?_
  refine Gx.val rfl rfl rfl (val_move rfl rfl) ?_
  refine Gx.val rfl rfl rfl (val_move rfl rfl) ?_
  refine Gx.val rfl rfl rfl (val_move rfl rfl) ?_
  refine Gx.eff rfl rfl rfl (eff_callE (vs := [.int .i64 ((n : Nat) : Int), hv, av]) rfl Try.fn10 rfl (R := fun v => ∃ t : Bool, v = .tuple #[.bool t, .int .i64 0] ∧ (t = true ↔ Whole l a)) (fun w H => whole_any hE hok (hca) (hs.below H.below) (ha.below H.below))) ?_
  rintro _ _ ⟨⟨b1, rfl, hb1⟩, rfl⟩
  refine Gx.val rfl rfl rfl (val_move rfl rfl) ?_
  refine Gx.val rfl rfl rfl (val_extract rfl rfl rfl) ?_
  refine Gx.val rfl rfl rfl (val_extract rfl rfl rfl) ?_
  refine Gx.val rfl rfl rfl (val_assign rfl rfl) ?_
  refine Gx.val rfl rfl rfl (val_assign rfl rfl) ?_
  refine Gx.done ?_
  refine Gx.thenN ?_
  refine Gx.seq ?_
  refine Gx.region ?_
  refine Gx.val rfl rfl rfl (val_move rfl rfl) ?_
  refine Gx.val rfl rfl rfl (val_move rfl rfl) ?_
  refine Gx.val rfl rfl rfl (val_move rfl rfl) ?_
  refine Gx.eff rfl rfl rfl (eff_callE (vs := [.int .i64 ((n : Nat) : Int), hv, bv]) rfl Try.fn10 rfl (R := fun v => ∃ t : Bool, v = .tuple #[.bool t, .int .i64 0] ∧ (t = true ↔ Whole l b)) (fun w H => whole_any hE hok (hcb) (hs.below H.below) (hb.below H.below))) ?_
  rintro _ _ ⟨⟨b2, rfl, hb2⟩, rfl⟩
  refine Gx.val rfl rfl rfl (val_move rfl rfl) ?_
  refine Gx.val rfl rfl rfl (val_extract rfl rfl rfl) ?_
  refine Gx.val rfl rfl rfl (val_extract rfl rfl rfl) ?_
  refine Gx.val rfl rfl rfl (val_assign rfl rfl) ?_
  refine Gx.val rfl rfl rfl (val_assign rfl rfl) ?_
  refine Gx.done ?_
  refine Gx.thenN ?_
  refine Gx.seq ?_
  refine Gx.region ?_
  refine Gx.val rfl rfl rfl (val_move rfl rfl) ?_
  refine Gx.val rfl rfl rfl (val_move rfl rfl) ?_
  refine Gx.val rfl rfl rfl (val_move rfl rfl) ?_
  refine Gx.eff rfl rfl rfl (eff_makeSlice (n := n) (f := FN) rfl Try.underlying23 Try.ty3 rfl rfl (rfl) (rfl) FN_len 0 rfl (by omega) (by omega)) ?_
  rintro v3 _ ⟨hiv3, rfl⟩
  refine Gx.eff rfl rfl rfl (eff_callE (vs := [.int .i64 ((n : Nat) : Int), hv, v3]) rfl Try.fn10 rfl (R := fun v => ∃ t : Bool, v = .tuple #[.bool t, .int .i64 0] ∧ (t = true ↔ Whole l (List.replicate n 0))) (fun w H => whole_any hE hok (cut_zero n l) (hs.below H.below) ((H.at_ (k := 0) rfl).sls (by first | omega | (rw [near_len (by omega)]; omega) | (rw [full_len]; omega) | (rw [List.length_set]; omega) | (simp; omega))))) ?_
  rintro _ _ ⟨⟨b4, rfl, hb4⟩, rfl⟩
  refine Gx.val rfl rfl rfl (val_move rfl rfl) ?_
  refine Gx.val rfl rfl rfl (val_extract rfl rfl rfl) ?_
  refine Gx.val rfl rfl rfl (val_extract rfl rfl rfl) ?_
  refine Gx.val rfl rfl rfl (val_assign rfl rfl) ?_
  refine Gx.val rfl rfl rfl (val_assign rfl rfl) ?_
  refine Gx.done ?_
  refine Gx.thenN ?_
  refine Gx.seq ?_
  refine Gx.seq ?_
  refine Gx.region ?_
  obtain rfl : b4 = true := hb4.2 (whole_zero n l)
  refine Gx.val rfl rfl rfl (val_move rfl rfl) ?_
  refine Gx.val rfl rfl rfl (Val.cast (val_neq rfl rfl rfl) (v' := .bool false) rfl) ?_
  refine Gx.val rfl rfl rfl (val_move rfl rfl) ?_
  refine Gx.valg rfl rfl rfl rfl rfl (val_move rfl rfl) ?_
  refine Gx.valg rfl rfl rfl rfl rfl (Val.cast (val_neq rfl rfl rfl) (v' := .bool false) rfl) ?_
  refine Gx.val rfl rfl rfl (val_pickF rfl rfl rfl) ?_
  refine Gx.val rfl rfl rfl (val_move rfl rfl) ?_
  refine Gx.valg rfl rfl rfl rfl rfl (val_move rfl rfl) ?_
  refine Gx.valg rfl rfl rfl rfl rfl (Val.cast (val_neq rfl rfl rfl) (v' := .bool false) rfl) ?_
  refine Gx.val rfl rfl rfl (val_pickF rfl rfl rfl) ?_
  refine Gx.val rfl rfl rfl (val_move rfl rfl) ?_
  refine Gx.valg rfl rfl rfl rfl rfl (val_move rfl rfl) ?_
  refine Gx.valg rfl rfl rfl rfl rfl (Val.cast (val_not rfl rfl) (v' := .bool false) rfl) ?_
  refine Gx.val rfl rfl rfl (val_pickF rfl rfl rfl) ?_
  refine Gx.done ?_
  refine Gx.thenN ?_
  refine Gx.f rfl ?_
  refine Gx.skip ?_
  refine Gx.thenN ?_
  refine Gx.seq ?_
  refine Gx.seq ?_
  refine Gx.region ?_
  refine Gx.val rfl rfl rfl (val_move rfl rfl) ?_
  refine Gx.val rfl rfl rfl (val_not rfl rfl) ?_
  refine Gx.val rfl rfl rfl (val_move rfl rfl) ?_
  refine Gx.casesB (t := 97) rfl (fun h5 => ?_) (fun h5 => ?_)
  · refine Gx.skipg rfl rfl rfl rfl rfl rfl ?_
    refine Gx.skipg rfl rfl rfl rfl rfl rfl ?_
    refine Gx.val rfl rfl rfl (val_pickT rfl rfl rfl) ?_
    refine Gx.done ?_
    refine Gx.thenN ?_
    refine Gx.t rfl ?_
    refine Gx.seq ?_
    refine Gx.region ?_
    refine Gx.val rfl rfl rfl (val_assign rfl rfl) ?_
    refine Gx.done ?_
    refine Gx.thenN ?_
    refine Gx.ret ?_
    refine Gx.thenR ?_
    refine Gx.ret1 Try.results3 rfl ?_
    rfl
  · refine Gx.valg rfl rfl rfl rfl rfl (val_move rfl rfl) ?_
    refine Gx.valg rfl rfl rfl rfl rfl (val_not rfl rfl) ?_
    refine Gx.val rfl rfl rfl (val_pickF rfl rfl rfl) ?_
    refine Gx.done ?_
    refine Gx.thenN ?_
    refine Gx.bool rfl (fun h6 => ?_) (fun h6 => ?_)
    · refine Gx.seq ?_
      refine Gx.region ?_
      refine Gx.val rfl rfl rfl (val_assign rfl rfl) ?_
      refine Gx.done ?_
      refine Gx.thenN ?_
      refine Gx.ret ?_
      refine Gx.thenR ?_
      refine Gx.ret1 Try.results3 rfl ?_
      rfl
    · refine Gx.skip ?_
      refine Gx.thenN ?_
      refine Gx.seq ?_
      refine Gx.region ?_
      refine Gx.val rfl rfl rfl (val_move rfl rfl) ?_
      refine Gx.val rfl rfl rfl (val_move rfl rfl) ?_
      refine Gx.val rfl rfl rfl (val_move rfl rfl) ?_
      refine Gx.val rfl rfl rfl (val_move rfl rfl) ?_
      refine Gx.eff rfl rfl rfl (eff_callN (vs := [av, bv, .bool false]) rfl Try.fn11 rfl (fun w H => near_any (ha.below H.below) (hb.below H.below) (by omega) (by omega))) ?_
      rintro u7 _ ⟨_, ⟨_, rfl, rfl, hiu7⟩, rfl⟩
      refine Gx.norm (l' := [Hp.own FN 1 u7 (near false a b), Hp.own FN 1 v3 (List.replicate n 0)]) rfl ?_
      refine Gx.eff rfl rfl rfl (eff_callE (vs := [.int .i64 ((n : Nat) : Int), hv, u7]) rfl Try.fn10 rfl (R := fun v => ∃ t : Bool, v = .tuple #[.bool t, .int .i64 0] ∧ (t = true ↔ Whole l (near false a b))) (fun w H => whole_any hE hok (hca.near hcb) (hs.below H.below) ((H.at_ (k := 0) rfl).sls (by first | omega | (rw [near_len (by omega)]; omega) | (rw [full_len]; omega) | (rw [List.length_set]; omega) | (simp; omega))))) ?_
      rintro _ _ ⟨⟨b8, rfl, hb8⟩, rfl⟩
      refine Gx.val rfl rfl rfl (val_move rfl rfl) ?_
      refine Gx.val rfl rfl rfl (val_extract rfl rfl rfl) ?_
      refine Gx.val rfl rfl rfl (val_extract rfl rfl rfl) ?_
      refine Gx.val rfl rfl rfl (val_assign rfl rfl) ?_
      refine Gx.val rfl rfl rfl (val_assign rfl rfl) ?_
      refine Gx.done ?_
      refine Gx.thenN ?_
      refine Gx.seq ?_
      refine Gx.region ?_
      refine Gx.val rfl rfl rfl (val_move rfl rfl) ?_
      refine Gx.val rfl rfl rfl (val_move rfl rfl) ?_
      refine Gx.val rfl rfl rfl (val_move rfl rfl) ?_
      refine Gx.val rfl rfl rfl (val_move rfl rfl) ?_
      refine Gx.eff rfl rfl rfl (eff_callN (vs := [av, bv, .bool true]) rfl Try.fn11 rfl (fun w H => near_any (ha.below H.below) (hb.below H.below) (by omega) (by omega))) ?_
      rintro u9 _ ⟨_, ⟨_, rfl, rfl, hiu9⟩, rfl⟩
      refine Gx.norm (l' := [Hp.own FN 1 u9 (near true a b), Hp.own FN 1 u7 (near false a b), Hp.own FN 1 v3 (List.replicate n 0)]) rfl ?_
      refine Gx.eff rfl rfl rfl (eff_callE (vs := [.int .i64 ((n : Nat) : Int), hv, u9]) rfl Try.fn10 rfl (R := fun v => ∃ t : Bool, v = .tuple #[.bool t, .int .i64 0] ∧ (t = true ↔ Whole l (near true a b))) (fun w H => whole_any hE hok (hca.near hcb) (hs.below H.below) ((H.at_ (k := 0) rfl).sls (by first | omega | (rw [near_len (by omega)]; omega) | (rw [full_len]; omega) | (rw [List.length_set]; omega) | (simp; omega))))) ?_
      rintro _ _ ⟨⟨b10, rfl, hb10⟩, rfl⟩
      refine Gx.val rfl rfl rfl (val_move rfl rfl) ?_
      refine Gx.val rfl rfl rfl (val_extract rfl rfl rfl) ?_
      refine Gx.val rfl rfl rfl (val_extract rfl rfl rfl) ?_
      refine Gx.val rfl rfl rfl (val_assign rfl rfl) ?_
      refine Gx.val rfl rfl rfl (val_assign rfl rfl) ?_
      refine Gx.done ?_
      refine Gx.thenN ?_
      refine Gx.seq ?_
      refine Gx.region ?_
      refine Gx.val rfl rfl rfl (val_move rfl rfl) ?_
      refine Gx.val rfl rfl rfl (Val.cast (val_eql rfl rfl rfl) (v' := .bool true) rfl) ?_
      refine Gx.val rfl rfl rfl (val_move rfl rfl) ?_
      refine Gx.valg rfl rfl rfl rfl rfl (val_move rfl rfl) ?_
      refine Gx.valg rfl rfl rfl rfl rfl (Val.cast (val_eql rfl rfl rfl) (v' := .bool true) rfl) ?_
      refine Gx.val rfl rfl rfl (val_pickT rfl rfl rfl) ?_
      refine Gx.val rfl rfl rfl (val_move rfl rfl) ?_
      refine Gx.valg rfl rfl rfl rfl rfl (val_move rfl rfl) ?_
      refine Gx.val rfl rfl rfl (val_pickT rfl rfl rfl) ?_
      refine Gx.val rfl rfl rfl (val_move rfl rfl) ?_
      refine Gx.slot (t := 128) (v := .bool true) (look_boolT rfl ((hb8.2 ((hb1.1 (by simpa using h5)).near (by omega) (hb2.1 (by simpa using h6)))))) ?_
      refine Gx.valg rfl rfl rfl rfl rfl (val_move rfl rfl) ?_
      refine Gx.val rfl rfl rfl (val_pickT rfl rfl rfl) ?_
      refine Gx.val rfl rfl rfl (val_assign rfl rfl) ?_
      refine Gx.done ?_
      refine Gx.thenN ?_
      refine Gx.ret ?_
      refine Gx.ret1 Try.results3 rfl ?_
      exact congrArg Value.bool (hb10.2 ((hb1.1 (by simpa using h5)).near (by omega) (hb2.1 (by simpa using h6))))

theorem lattice_any {W : World} {n : Int} {r : List Ev} {a b : List Int} {hv av bv : Value} (hs : SlS FE 3 W hv r) (ha : SlS FZ 1 W av a) (hb : SlS FZ 1 W bv b) :
    Calls Try.prog 3 #[.int .i64 n, hv, av, bv] W fun e w' => e = .returned (.bool true) ∧ Below W.heap.size W w' := by
  by_cases hE : OkE n r
  · obtain ⟨m, l, rfl, rfl, hE, hok⟩ := ok_of hE
    by_cases hab : CutZ m l a ∧ CutZ m l b
    · obtain ⟨d1, rfl, h1⟩ := cut_of hab.1
      obtain ⟨d2, rfl, h2⟩ := cut_of hab.2
      exact lattice_yes hE hok h1 h2 (sls_raw.1 hs) (sls_nat.2 ha) (sls_nat.2 hb)
    · exact lattice_un hE hok (fun h1 h2 => hab ⟨(GoodC.iff hE hok).1 h1, (GoodC.iff hE hok).1 h2⟩) hs ha hb
  · exact lattice_no hE (fun h1 _ => by obtain ⟨_, _, _, _, _, h3, _⟩ := h1; exact hE h3) hs ha hb
end Go.Proofs.Ytffnjojdjbdfcaa
