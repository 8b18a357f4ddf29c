/- One event more; none, and all. The walks. No condition. -/
import Derived.Test.YtffnjojdjbdfcaaA8
import Derived.Test.YtffnjojdjbdfcaaB1
namespace Go.Proofs.Ytffnjojdjbdfcaa
open Go.RowKit
set_option linter.unusedVariables false
set_option linter.unusedSimpArgs false
set_option maxRecDepth 100000

theorem step_no {W : World} {n : Int} {r : List Ev} {a b : List Int} {hv av bv : Value} (hE : ¬ OkE n r) (hn : GoodC n r a → GoodC n r b → False) (hs : SlS FE 3 W hv r) (ha : SlS FZ 1 W av a) (hb : SlS FZ 1 W bv b) :
    Calls Try.prog 5 #[.int .i64 n, hv, av, bv] W fun e w' => e = .returned (.bool true) ∧ Below W.heap.size W w' := by
  refine calls_pure (Gx.enter (l := []) Try.func5 rfl Try.ntmps5 rfl (Sat.start W) ?_)
  refine Gx.know (m' := [(0, .int .i64 n), (1, hv), (2, av), (3, bv)]) (.cons rfl (.cons rfl (.cons rfl (.cons rfl .nil)))) ?_
  refine Gx.seq ?_
  refine Gx.region ?_
  refine Gx.val rfl rfl rfl (val_assign rfl rfl) ?_
  refine Gx.done ?_
  refine Gx.thenN ?_
  refine Gx.seq ?_
  refine Gx.seq ?_
  refine Gx.region ?_
  refine Gx.val rfl rfl rfl (val_move rfl rfl) ?_
  refine Gx.val rfl rfl rfl (val_move rfl rfl) ?_
  refine Gx.val rfl rfl rfl (val_call (vs := [.int .i64 n, hv]) rfl Try.fn8 rfl (fun w H => events_no hE (hs.below H.below))) ?_
  refine Gx.val rfl rfl rfl (Val.cast (val_not rfl rfl) (v' := .bool true) rfl) ?_
  refine Gx.val rfl rfl rfl (val_move rfl rfl) ?_
  refine Gx.skipg rfl rfl rfl rfl rfl rfl ?_
  refine Gx.skipg rfl rfl rfl rfl rfl rfl ?_
  refine Gx.skipg rfl rfl rfl rfl rfl rfl ?_
  refine Gx.skipg rfl rfl rfl rfl rfl rfl ?_
  refine Gx.skipg rfl rfl rfl rfl rfl rfl ?_
  refine Gx.val rfl rfl rfl (val_pickT rfl rfl rfl) ?_
  refine Gx.val rfl rfl rfl (val_move rfl rfl) ?_
  refine Gx.skipg rfl rfl rfl rfl rfl rfl ?_
  refine Gx.skipg rfl rfl rfl rfl rfl rfl ?_
  refine Gx.skipg rfl rfl rfl rfl rfl rfl ?_
  refine Gx.skipg rfl rfl rfl rfl rfl rfl ?_
  refine Gx.skipg rfl rfl rfl rfl rfl rfl ?_
  refine Gx.val rfl rfl rfl (val_pickT rfl rfl rfl) ?_
  refine Gx.done ?_
  refine Gx.thenN ?_
  refine Gx.t rfl ?_
  refine Gx.seq ?_
  refine Gx.region ?_
  refine Gx.val rfl rfl rfl (val_move rfl rfl) ?_
  refine Gx.val rfl rfl rfl (val_move rfl rfl) ?_
  refine Gx.val rfl rfl rfl (val_move rfl rfl) ?_
  refine Gx.eff rfl rfl rfl (eff_callE (vs := [.int .i64 n, hv, av]) rfl Try.fn10 rfl (R := fun v => ∃ (t : Bool) (z : Int), v = .tuple #[.bool t, .int .i64 z] ∧ (z = 0 → GoodC n r a)) (fun w H => whole_some (hs.below H.below) (ha.below H.below))) ?_
  rintro _ _ ⟨⟨b1, z2, rfl, hz2⟩, rfl⟩
  refine Gx.val rfl rfl rfl (val_move rfl rfl) ?_
  refine Gx.val rfl rfl rfl (val_extract rfl rfl rfl) ?_
  refine Gx.val rfl rfl rfl (val_extract rfl rfl rfl) ?_
  refine Gx.val rfl rfl rfl (val_assign rfl rfl) ?_
  refine Gx.val rfl rfl rfl (val_assign rfl rfl) ?_
  refine Gx.done ?_
  refine Gx.thenN ?_
  refine Gx.seq ?_
  refine Gx.region ?_
  refine Gx.val rfl rfl rfl (val_move rfl rfl) ?_
  refine Gx.val rfl rfl rfl (val_move rfl rfl) ?_
  refine Gx.val rfl rfl rfl (val_move rfl rfl) ?_
  refine Gx.eff rfl rfl rfl (eff_callE (vs := [.int .i64 n, hv, bv]) rfl Try.fn10 rfl (R := fun v => ∃ (t : Bool) (z : Int), v = .tuple #[.bool t, .int .i64 z] ∧ (z = 0 → GoodC n r b)) (fun w H => whole_some (hs.below H.below) (hb.below H.below))) ?_
  rintro _ _ ⟨⟨b3, z4, rfl, hz4⟩, rfl⟩
  refine Gx.val rfl rfl rfl (val_move rfl rfl) ?_
  refine Gx.val rfl rfl rfl (val_extract rfl rfl rfl) ?_
  refine Gx.val rfl rfl rfl (val_extract rfl rfl rfl) ?_
  refine Gx.val rfl rfl rfl (val_assign rfl rfl) ?_
  refine Gx.val rfl rfl rfl (val_assign rfl rfl) ?_
  refine Gx.done ?_
  refine Gx.thenN ?_
  refine Gx.seq ?_
  refine Gx.region ?_
  refine Gx.val rfl rfl rfl (val_move rfl rfl) ?_
  refine Gx.val rfl rfl rfl (val_neq rfl rfl rfl) ?_
  refine Gx.val rfl rfl rfl (val_move rfl rfl) ?_
  refine Gx.cases (t := 55) rfl (fun h5 => ?_) (fun h5 => ?_)
  · refine Gx.skipg rfl rfl rfl rfl rfl rfl ?_
    refine Gx.skipg rfl rfl rfl rfl rfl rfl ?_
    refine Gx.val rfl rfl rfl (val_pickT rfl rfl rfl) ?_
    refine Gx.val rfl rfl rfl (val_assign rfl rfl) ?_
    refine Gx.done ?_
    refine Gx.thenN ?_
    refine Gx.ret ?_
    refine Gx.thenR ?_
    refine Gx.ret1 Try.results5 rfl ?_
    rfl
  · refine Gx.valg rfl rfl rfl rfl rfl (val_move rfl rfl) ?_
    refine Gx.valg rfl rfl rfl rfl rfl (val_neq rfl rfl rfl) ?_
    refine Gx.val rfl rfl rfl (val_pickF rfl rfl rfl) ?_
    refine Gx.val rfl rfl rfl (val_assign rfl rfl) ?_
    refine Gx.done ?_
    refine Gx.thenN ?_
    refine Gx.ret ?_
    refine Gx.thenR ?_
    refine Gx.ret1 Try.results5 rfl ?_
    exact congrArg Value.bool (decide_eq_true (fun q => hn (hz2 (by omega)) (hz4 q)))

theorem step_un {W : World} {n : Nat} {l : List En} {a b : List Int} {hv av bv : Value} (hE : OkE (n : Int) (l.map En.raw)) (hok : OkC n l) (hn : GoodC n (l.map En.raw) a → GoodC n (l.map En.raw) b → False) (hs : SlS FE 3 W hv (l.map En.raw)) (ha : SlS FZ 1 W av a) (hb : SlS FZ 1 W bv b) :
    Calls Try.prog 5 #[.int .i64 ((n : Nat) : Int), hv, av, bv] W fun e w' => e = .returned (.bool true) ∧ Below W.heap.size W w' := by
  refine calls_pure (Gx.enter (l := []) Try.func5 rfl Try.ntmps5 rfl (Sat.start W) ?_)
  refine Gx.know (m' := [(0, .int .i64 ((n : Nat) : Int)), (1, hv), (2, av), (3, bv)]) (.cons rfl (.cons rfl (.cons rfl (.cons rfl .nil)))) ?_
  refine Gx.seq ?_
  refine Gx.region ?_
  refine Gx.val rfl rfl rfl (val_assign rfl rfl) ?_
  refine Gx.done ?_
  refine Gx.thenN ?_
  refine Gx.seq ?_
  refine Gx.seq ?_
  refine Gx.region ?_
  refine Gx.val rfl rfl rfl (val_move rfl rfl) ?_
  refine Gx.val rfl rfl rfl (val_move rfl rfl) ?_
  refine Gx.val rfl rfl rfl (val_call (vs := [.int .i64 ((n : Nat) : Int), hv]) rfl Try.fn8 rfl (fun w H => events_ok hE (hs.below H.below))) ?_
  refine Gx.val rfl rfl rfl (Val.cast (val_not rfl rfl) (v' := .bool false) rfl) ?_
  refine Gx.val rfl rfl rfl (val_move rfl rfl) ?_
  refine Gx.valg rfl rfl rfl rfl rfl (val_move rfl rfl) ?_
  refine Gx.valg rfl rfl rfl rfl rfl (val_move rfl rfl) ?_
  refine Gx.valg rfl rfl rfl rfl rfl (val_move rfl rfl) ?_
  refine Gx.effg rfl rfl rfl rfl rfl (eff_callE (vs := [.int .i64 ((n : Nat) : Int), hv, av]) rfl Try.fn9 rfl (R := fun v => ∃ t : Bool, v = .bool t ∧ (t = true ↔ CutZ n l a)) (fun w H => cut_any hok (sls_raw.1 (hs.below H.below)) (ha.below H.below))) ?_
  rintro _ _ ⟨⟨b1, rfl, hb1⟩, rfl⟩
  refine Gx.valg rfl rfl rfl rfl rfl (val_not rfl rfl) ?_
  refine Gx.val rfl rfl rfl (val_pickF rfl rfl rfl) ?_
  refine Gx.val rfl rfl rfl (val_move rfl rfl) ?_
  refine Gx.casesB (t := 32) rfl (fun h2 => ?_) (fun h2 => ?_)
  · refine Gx.skipg rfl rfl rfl rfl rfl rfl ?_
    refine Gx.skipg rfl rfl rfl rfl rfl rfl ?_
    refine Gx.skipg rfl rfl rfl rfl rfl rfl ?_
    refine Gx.skipg rfl rfl rfl rfl rfl rfl ?_
    refine Gx.skipg rfl rfl rfl rfl rfl rfl ?_
    refine Gx.val rfl rfl rfl (val_pickT rfl rfl rfl) ?_
    refine Gx.done ?_
    refine Gx.thenN ?_
    refine Gx.t rfl ?_
    refine Gx.seq ?_
    refine Gx.region ?_
    refine Gx.val rfl rfl rfl (val_move rfl rfl) ?_
    refine Gx.val rfl rfl rfl (val_move rfl rfl) ?_
    refine Gx.val rfl rfl rfl (val_move rfl rfl) ?_
    refine Gx.eff rfl rfl rfl (eff_callE (vs := [.int .i64 ((n : Nat) : Int), hv, av]) rfl Try.fn10 rfl (R := fun v => ∃ (t : Bool) (z : Int), v = .tuple #[.bool t, .int .i64 z] ∧ (z = 0 → GoodC ((n : Nat) : Int) (l.map En.raw) a)) (fun w H => whole_some (hs.below H.below) (ha.below H.below))) ?_
    rintro _ _ ⟨⟨b3, z4, rfl, hz4⟩, rfl⟩
    refine Gx.val rfl rfl rfl (val_move rfl rfl) ?_
    refine Gx.val rfl rfl rfl (val_extract rfl rfl rfl) ?_
    refine Gx.val rfl rfl rfl (val_extract rfl rfl rfl) ?_
    refine Gx.val rfl rfl rfl (val_assign rfl rfl) ?_
    refine Gx.val rfl rfl rfl (val_assign rfl rfl) ?_
    refine Gx.done ?_
    refine Gx.thenN ?_
    refine Gx.seq ?_
    refine Gx.region ?_
    refine Gx.val rfl rfl rfl (val_move rfl rfl) ?_
    refine Gx.val rfl rfl rfl (val_move rfl rfl) ?_
    refine Gx.val rfl rfl rfl (val_move rfl rfl) ?_
    refine Gx.eff rfl rfl rfl (eff_callE (vs := [.int .i64 ((n : Nat) : Int), hv, bv]) rfl Try.fn10 rfl (R := fun v => ∃ (t : Bool) (z : Int), v = .tuple #[.bool t, .int .i64 z] ∧ (z = 0 → GoodC ((n : Nat) : Int) (l.map En.raw) b)) (fun w H => whole_some (hs.below H.below) (hb.below H.below))) ?_
    rintro _ _ ⟨⟨b5, z6, rfl, hz6⟩, rfl⟩
    refine Gx.val rfl rfl rfl (val_move rfl rfl) ?_
    refine Gx.val rfl rfl rfl (val_extract rfl rfl rfl) ?_
    refine Gx.val rfl rfl rfl (val_extract rfl rfl rfl) ?_
    refine Gx.val rfl rfl rfl (val_assign rfl rfl) ?_
    refine Gx.val rfl rfl rfl (val_assign rfl rfl) ?_
    refine Gx.done ?_
    refine Gx.thenN ?_
    refine Gx.seq ?_
    refine Gx.region ?_
    refine Gx.val rfl rfl rfl (val_move rfl rfl) ?_
    refine Gx.val rfl rfl rfl (val_neq rfl rfl rfl) ?_
    refine Gx.val rfl rfl rfl (val_move rfl rfl) ?_
    refine Gx.cases (t := 55) rfl (fun h7 => ?_) (fun h7 => ?_)
    · refine Gx.skipg rfl rfl rfl rfl rfl rfl ?_
      refine Gx.skipg rfl rfl rfl rfl rfl rfl ?_
      refine Gx.val rfl rfl rfl (val_pickT rfl rfl rfl) ?_
      refine Gx.val rfl rfl rfl (val_assign rfl rfl) ?_
      refine Gx.done ?_
      refine Gx.thenN ?_
      refine Gx.ret ?_
      refine Gx.thenR ?_
      refine Gx.ret1 Try.results5 rfl ?_
      rfl
    · refine Gx.valg rfl rfl rfl rfl rfl (val_move rfl rfl) ?_
      refine Gx.valg rfl rfl rfl rfl rfl (val_neq rfl rfl rfl) ?_
      refine Gx.val rfl rfl rfl (val_pickF rfl rfl rfl) ?_
      refine Gx.val rfl rfl rfl (val_assign rfl rfl) ?_
      refine Gx.done ?_
      refine Gx.thenN ?_
      refine Gx.ret ?_
      refine Gx.thenR ?_
      refine Gx.ret1 Try.results5 rfl ?_
      exact congrArg Value.bool (decide_eq_true (fun q => hn (hz4 (by omega)) (hz6 q)))
  · refine Gx.valg rfl rfl rfl rfl rfl (val_move rfl rfl) ?_
    refine Gx.valg rfl rfl rfl rfl rfl (val_move rfl rfl) ?_
    refine Gx.valg rfl rfl rfl rfl rfl (val_move rfl rfl) ?_
    refine Gx.effg rfl rfl rfl rfl rfl (eff_callE (vs := [.int .i64 ((n : Nat) : Int), hv, bv]) rfl Try.fn9 rfl (R := fun v => ∃ t : Bool, v = .bool t ∧ (t = true ↔ CutZ n l b)) (fun w H => cut_any hok (sls_raw.1 (hs.below H.below)) (hb.below H.below))) ?_
    rintro _ _ ⟨⟨b8, rfl, hb8⟩, rfl⟩
    refine Gx.valg rfl rfl rfl rfl rfl (val_not rfl rfl) ?_
    refine Gx.val rfl rfl rfl (val_pickF rfl rfl rfl) ?_
    refine Gx.done ?_
    refine Gx.thenN ?_
    refine Gx.bool rfl (fun h9 => ?_) (fun h9 => ?_)
    · refine Gx.seq ?_
      refine Gx.region ?_
      refine Gx.val rfl rfl rfl (val_move rfl rfl) ?_
      refine Gx.val rfl rfl rfl (val_move rfl rfl) ?_
      refine Gx.val rfl rfl rfl (val_move rfl rfl) ?_
      refine Gx.eff rfl rfl rfl (eff_callE (vs := [.int .i64 ((n : Nat) : Int), hv, av]) rfl Try.fn10 rfl (R := fun v => ∃ (t : Bool) (z : Int), v = .tuple #[.bool t, .int .i64 z] ∧ (z = 0 → GoodC ((n : Nat) : Int) (l.map En.raw) a)) (fun w H => whole_some (hs.below H.below) (ha.below H.below))) ?_
      rintro _ _ ⟨⟨b10, z11, rfl, hz11⟩, rfl⟩
      refine Gx.val rfl rfl rfl (val_move rfl rfl) ?_
      refine Gx.val rfl rfl rfl (val_extract rfl rfl rfl) ?_
      refine Gx.val rfl rfl rfl (val_extract rfl rfl rfl) ?_
      refine Gx.val rfl rfl rfl (val_assign rfl rfl) ?_
      refine Gx.val rfl rfl rfl (val_assign rfl rfl) ?_
      refine Gx.done ?_
      refine Gx.thenN ?_
      refine Gx.seq ?_
      refine Gx.region ?_
      refine Gx.val rfl rfl rfl (val_move rfl rfl) ?_
      refine Gx.val rfl rfl rfl (val_move rfl rfl) ?_
      refine Gx.val rfl rfl rfl (val_move rfl rfl) ?_
      refine Gx.eff rfl rfl rfl (eff_callE (vs := [.int .i64 ((n : Nat) : Int), hv, bv]) rfl Try.fn10 rfl (R := fun v => ∃ (t : Bool) (z : Int), v = .tuple #[.bool t, .int .i64 z] ∧ (z = 0 → GoodC ((n : Nat) : Int) (l.map En.raw) b)) (fun w H => whole_some (hs.below H.below) (hb.below H.below))) ?_
      rintro _ _ ⟨⟨b12, z13, rfl, hz13⟩, rfl⟩
      refine Gx.val rfl rfl rfl (val_move rfl rfl) ?_
      refine Gx.val rfl rfl rfl (val_extract rfl rfl rfl) ?_
      refine Gx.val rfl rfl rfl (val_extract rfl rfl rfl) ?_
      refine Gx.val rfl rfl rfl (val_assign rfl rfl) ?_
      refine Gx.val rfl rfl rfl (val_assign rfl rfl) ?_
      refine Gx.done ?_
      refine Gx.thenN ?_
      refine Gx.seq ?_
      refine Gx.region ?_
      refine Gx.val rfl rfl rfl (val_move rfl rfl) ?_
      refine Gx.val rfl rfl rfl (val_neq rfl rfl rfl) ?_
      refine Gx.val rfl rfl rfl (val_move rfl rfl) ?_
      refine Gx.cases (t := 55) rfl (fun h14 => ?_) (fun h14 => ?_)
      · refine Gx.skipg rfl rfl rfl rfl rfl rfl ?_
        refine Gx.skipg rfl rfl rfl rfl rfl rfl ?_
        refine Gx.val rfl rfl rfl (val_pickT rfl rfl rfl) ?_
        refine Gx.val rfl rfl rfl (val_assign rfl rfl) ?_
        refine Gx.done ?_
        refine Gx.thenN ?_
        refine Gx.ret ?_
        refine Gx.thenR ?_
        refine Gx.ret1 Try.results5 rfl ?_
        rfl
      · refine Gx.valg rfl rfl rfl rfl rfl (val_move rfl rfl) ?_
        refine Gx.valg rfl rfl rfl rfl rfl (val_neq rfl rfl rfl) ?_
        refine Gx.val rfl rfl rfl (val_pickF rfl rfl rfl) ?_
        refine Gx.val rfl rfl rfl (val_assign rfl rfl) ?_
        refine Gx.done ?_
        refine Gx.thenN ?_
        refine Gx.ret ?_
        refine Gx.thenR ?_
        refine Gx.ret1 Try.results5 rfl ?_
        exact congrArg Value.bool (decide_eq_true (fun q => hn (hz11 (by omega)) (hz13 q)))
    · exfalso; exact hn ((GoodC.iff hE hok).2 (hb1.1 (by simp_all))) ((GoodC.iff hE hok).2 (hb8.1 (by simp_all)))

theorem step_yes {W : World} {n : Nat} {l : List En} {a b : List Nat} {hv av bv : Value} (hE : OkE (n : Int) (l.map En.raw)) (hok : OkC n l) (hca : Cut n l a) (hcb : Cut n l b) (hs : SlS FEn 3 W hv l) (ha : SlS FN 1 W av a) (hb : SlS FN 1 W bv b) :
    Calls Try.prog 5 #[.int .i64 ((n : Nat) : Int), hv, av, bv] W fun e w' => e = .returned (.bool true) ∧ Below W.heap.size W w' := by
  have hla := hca.len
  have hlb := hcb.len
  have h1n := hok.low
  have h6n := hok.high
  refine calls_pure (Gx.enter (l := []) Try.func5 rfl Try.ntmps5 rfl (Sat.start W) ?_)
  refine Gx.know (m' := [(0, .int .i64 ((n : Nat) : Int)), (1, hv), (2, av), (3, bv)]) (.cons rfl (.cons rfl (.cons rfl (.cons rfl .nil)))) ?_
  refine Gx.seq ?_
  refine Gx.region ?_
  refine Gx.val rfl rfl rfl (val_assign rfl rfl) ?_
  refine Gx.done ?_
  refine Gx.thenN ?_
  refine Gx.seq ?_
  refine Gx.seq ?_
  refine Gx.region ?_
  refine Gx.val rfl rfl rfl (val_move rfl rfl) ?_
  refine Gx.val rfl rfl rfl (val_move rfl rfl) ?_
  refine Gx.val rfl rfl rfl (val_call (vs := [.int .i64 ((n : Nat) : Int), hv]) rfl Try.fn8 rfl (fun w H => events_ok hE (sls_raw.2 (hs.below H.below)))) ?_
  refine Gx.val rfl rfl rfl (Val.cast (val_not rfl rfl) (v' := .bool false) rfl) ?_
  refine Gx.val rfl rfl rfl (val_move rfl rfl) ?_
  refine Gx.valg rfl rfl rfl rfl rfl (val_move rfl rfl) ?_
  refine Gx.valg rfl rfl rfl rfl rfl (val_move rfl rfl) ?_
  refine Gx.valg rfl rfl rfl rfl rfl (val_move rfl rfl) ?_
  refine Gx.valg rfl rfl rfl rfl rfl (val_call (vs := [.int .i64 ((n : Nat) : Int), hv, av]) rfl Try.fn9 rfl (fun w H => cut_yes hok hca (hs.below H.below) (ha.below H.below))) ?_
  refine Gx.valg rfl rfl rfl rfl rfl (Val.cast (val_not rfl rfl) (v' := .bool false) rfl) ?_
  refine Gx.val rfl rfl rfl (val_pickF rfl rfl rfl) ?_
  refine Gx.val rfl rfl rfl (val_move rfl rfl) ?_
  refine Gx.valg rfl rfl rfl rfl rfl (val_move rfl rfl) ?_
  refine Gx.valg rfl rfl rfl rfl rfl (val_move rfl rfl) ?_
  refine Gx.valg rfl rfl rfl rfl rfl (val_move rfl rfl) ?_
  refine Gx.valg rfl rfl rfl rfl rfl (val_call (vs := [.int .i64 ((n : Nat) : Int), hv, bv]) rfl Try.fn9 rfl (fun w H => cut_yes hok hcb (hs.below H.below) (hb.below H.below))) ?_
  refine Gx.valg rfl rfl rfl rfl rfl (Val.cast (val_not rfl rfl) (v' := .bool false) rfl) ?_
  refine Gx.val rfl rfl rfl (val_pickF rfl rfl rfl) ?_
  refine Gx.done ?_
  refine Gx.thenN ?_
  refine Gx.f rfl ?_
  refine Gx.skip ?_
  refine Gx.thenN ?_
  refine Gx.seq ?_
  refine Gx.region ?_
  refine Gx.val rfl rfl rfl (val_move rfl rfl) ?_
  refine Gx.val rfl rfl rfl (val_move rfl rfl) ?_
  refine Gx.val rfl rfl rfl (val_move rfl rfl) ?_
  refine Gx.val rfl rfl rfl (val_move rfl rfl) ?_
  refine Gx.eff rfl rfl rfl (eff_callN (vs := [av, bv, .bool false]) rfl Try.fn11 rfl (fun w H => near_any (ha.below H.below) (hb.below H.below) (by omega) (by omega))) ?_
  rintro u1 _ ⟨_, ⟨_, rfl, rfl, hiu1⟩, rfl⟩
  refine Gx.norm (l' := [Hp.own FN 1 u1 (near false a b)]) rfl ?_
  refine Gx.eff rfl rfl rfl (eff_callN (vs := [.int .i64 ((n : Nat) : Int), hv, u1]) rfl Try.fn13 rfl (fun w H => shrink_any hE hok (hca.near hcb) (hs.below H.below) ((H.at_ (k := 0) rfl).sls (by first | omega | (rw [near_len (by omega)]; omega) | (rw [full_len]; omega) | (rw [List.length_set]; omega) | (simp; omega))))) ?_
  rintro _ _ ⟨_, ⟨u2, d3, rfl, rfl, hjd3, hwd3, hiu2⟩, rfl⟩
  refine Gx.norm (l' := [Hp.own FN 1 u2 d3, Hp.own FN 1 u1 (near false a b)]) rfl ?_
  have hnd3 : d3.length = n := hjd3.cut.len
  refine Gx.val rfl rfl rfl (val_move rfl rfl) ?_
  refine Gx.val rfl rfl rfl (val_extract rfl rfl rfl) ?_
  refine Gx.val rfl rfl rfl (val_extract rfl rfl rfl) ?_
  refine Gx.val rfl rfl rfl (val_assign rfl rfl) ?_
  refine Gx.val rfl rfl rfl (val_assign rfl rfl) ?_
  refine Gx.done ?_
  refine Gx.thenN ?_
  refine Gx.seq ?_
  refine Gx.region ?_
  refine Gx.val rfl rfl rfl (val_move rfl rfl) ?_
  refine Gx.val rfl rfl rfl (val_move rfl rfl) ?_
  refine Gx.val rfl rfl rfl (val_move rfl rfl) ?_
  refine Gx.val rfl rfl rfl (val_move rfl rfl) ?_
  refine Gx.eff rfl rfl rfl (eff_callN (vs := [av, bv, .bool true]) rfl Try.fn11 rfl (fun w H => near_any (ha.below H.below) (hb.below H.below) (by omega) (by omega))) ?_
  rintro u4 _ ⟨_, ⟨_, rfl, rfl, hiu4⟩, rfl⟩
  refine Gx.norm (l' := [Hp.own FN 1 u4 (near true a b), Hp.own FN 1 u2 d3, Hp.own FN 1 u1 (near false a b)]) rfl ?_
  refine Gx.eff rfl rfl rfl (eff_callN (vs := [.int .i64 ((n : Nat) : Int), hv, u4]) rfl Try.fn12 rfl (fun w H => grow_any hE hok (hca.near hcb) (hs.below H.below) ((H.at_ (k := 0) rfl).sls (by first | omega | (rw [near_len (by omega)]; omega) | (rw [full_len]; omega) | (rw [List.length_set]; omega) | (simp; omega))))) ?_
  rintro _ _ ⟨_, ⟨u5, d6, rfl, rfl, hjd6, hwd6, hiu5⟩, rfl⟩
  refine Gx.norm (l' := [Hp.own FN 1 u5 d6, Hp.own FN 1 u4 (near true a b), Hp.own FN 1 u2 d3, Hp.own FN 1 u1 (near false a b)]) rfl ?_
  have hnd6 : d6.length = n := hjd6.cut.len
  refine Gx.val rfl rfl rfl (val_move rfl rfl) ?_
  refine Gx.val rfl rfl rfl (val_extract rfl rfl rfl) ?_
  refine Gx.val rfl rfl rfl (val_extract rfl rfl rfl) ?_
  refine Gx.val rfl rfl rfl (val_assign rfl rfl) ?_
  refine Gx.val rfl rfl rfl (val_assign rfl rfl) ?_
  refine Gx.done ?_
  refine Gx.thenN ?_
  refine Gx.seq ?_
  refine Gx.seq ?_
  have hle : LeC d3 d6 := fun p => by
    have e1 := hjd3.le p
    have e2 := hjd6.le p
    rw [near_min (by omega)] at e1
    rw [near_max (by omega)] at e2
    omega
  refine Gx.region ?_
  refine Gx.val rfl rfl rfl (val_move rfl rfl) ?_
  refine Gx.val rfl rfl rfl (Val.cast (val_neq rfl rfl rfl) (v' := .bool false) rfl) ?_
  refine Gx.val rfl rfl rfl (val_move rfl rfl) ?_
  refine Gx.valg rfl rfl rfl rfl rfl (val_move rfl rfl) ?_
  refine Gx.valg rfl rfl rfl rfl rfl (Val.cast (val_neq rfl rfl rfl) (v' := .bool false) rfl) ?_
  refine Gx.val rfl rfl rfl (val_pickF rfl rfl rfl) ?_
  refine Gx.val rfl rfl rfl (val_move rfl rfl) ?_
  refine Gx.valg rfl rfl rfl rfl rfl (val_move rfl rfl) ?_
  refine Gx.valg rfl rfl rfl rfl rfl (val_move rfl rfl) ?_
  refine Gx.valg rfl rfl rfl rfl rfl (val_call (vs := [u2, u5]) rfl Try.fn14 rfl (fun w H => leq_any ((H.at_ (k := 2) rfl).sls (by first | omega | (rw [near_len (by omega)]; omega) | (rw [full_len]; omega) | (rw [List.length_set]; omega) | (simp; omega))) ((H.at_ (k := 0) rfl).sls (by first | omega | (rw [near_len (by omega)]; omega) | (rw [full_len]; omega) | (rw [List.length_set]; omega) | (simp; omega))))) ?_
  refine Gx.valg rfl rfl rfl rfl rfl (val_not rfl rfl) ?_
  refine Gx.val rfl rfl rfl (val_pickF rfl rfl rfl) ?_
  refine Gx.val rfl rfl rfl (val_move rfl rfl) ?_
  refine Gx.slot (t := 89) (v := .bool false) (look_boolF rfl (by rw [(leqB_iff (by omega)).2 hle]; rfl)) ?_
  refine Gx.valg rfl rfl rfl rfl rfl (val_move rfl rfl) ?_
  refine Gx.valg rfl rfl rfl rfl rfl (val_len rfl Try.underlying23 rfl (len_own (k := 2) rfl)) ?_
  refine Gx.valg rfl rfl rfl rfl rfl (val_move rfl rfl) ?_
  refine Gx.valg rfl rfl rfl rfl rfl (val_neq rfl rfl rfl) ?_
  refine Gx.val rfl rfl rfl (val_pickF rfl rfl rfl) ?_
  refine Gx.done ?_
  refine Gx.thenN ?_
  refine Gx.decF rfl (by simp; omega) ?_
  refine Gx.skip ?_
  refine Gx.thenN ?_
  refine Gx.seq ?_
  refine Gx.seq ?_
  refine Gx.region ?_
  refine Gx.val rfl rfl rfl (val_move rfl rfl) ?_
  refine Gx.val rfl rfl rfl (val_move rfl rfl) ?_
  refine Gx.val rfl rfl rfl (val_call (vs := [u2, u5]) rfl Try.fn16 rfl (fun w H => ints_any ((H.at_ (k := 2) rfl).sls (by first | omega | (rw [near_len (by omega)]; omega) | (rw [full_len]; omega) | (rw [List.length_set]; omega) | (simp; omega))) ((H.at_ (k := 0) rfl).sls (by first | omega | (rw [near_len (by omega)]; omega) | (rw [full_len]; omega) | (rw [List.length_set]; omega) | (simp; omega))))) ?_
  refine Gx.done ?_
  refine Gx.thenN ?_
  refine Gx.dec rfl (fun h7 => ?_) (fun h7 => ?_)
  · refine Gx.seq ?_
    refine Gx.region ?_
    refine Gx.val rfl rfl rfl (val_assign rfl rfl) ?_
    refine Gx.done ?_
    refine Gx.thenN ?_
    refine Gx.ret ?_
    refine Gx.thenR ?_
    refine Gx.ret1 Try.results5 rfl ?_
    rfl
  · refine Gx.skip ?_
    refine Gx.thenN ?_
    refine Gx.seq ?_
    refine Gx.seq ?_
    obtain ⟨p0, hp0, hp1, hp2⟩ := step_cut hok hwd3 hwd6 hle hjd3.cut hjd6.cut h7
    have hp3 := cut_step hjd3.cut hjd6.cut hp1
    refine Gx.region ?_
    refine Gx.val rfl rfl rfl (val_assign rfl rfl) ?_
    refine Gx.done ?_
    refine Gx.thenN ?_
    refine Gx.block ?_
    refine Gx.drop 3 rfl ?_
    refine Gx.drop 1 rfl ?_
    refine Gx.loop (ι := Nat) (fun ξ => (ξ ≤ p0)) (fun ξ => [(0, .int .i64 ((n : Nat) : Int)), (1, hv), (13, u2), (15, u5), (17, .int .i64 ((ξ : Nat) : Int))]) (fun ξ => [Hp.own FN 1 u5 d6, Hp.own FN 1 u2 d3]) (fun ξ => n - ξ) 0 (by first | omega | (dsimp only; omega)) ((.cons rfl (.cons rfl (.cons rfl (.cons rfl (.cons rfl .nil)))))) rfl ?_
    rintro p hp
    refine Gx.know (m' := [(0, .int .i64 ((n : Nat) : Int)), (1, hv), (13, u2), (15, u5), (17, .int .i64 ((p : Nat) : Int))]) (.cons rfl (.cons rfl (.cons rfl (.cons rfl (.cons rfl .nil))))) (Gx.norm (l' := [Hp.own FN 1 u5 d6, Hp.own FN 1 u2 d3]) rfl ?_)
    refine Gx.seq ?_
    refine Gx.seq ?_
    refine Gx.region ?_
    refine Gx.val rfl rfl rfl (val_move rfl rfl) ?_
    refine Gx.val rfl rfl rfl (val_move rfl rfl) ?_
    refine Gx.val rfl rfl rfl (val_lss rfl rfl rfl) ?_
    refine Gx.done ?_
    refine Gx.thenN ?_
    refine Gx.dec rfl (fun h8 => ?_) (fun h8 => ?_)
    · refine Gx.skip ?_
      refine Gx.thenN ?_
      refine Gx.seq ?_
      refine Gx.block ?_
      refine Gx.seq ?_
      refine Gx.seq ?_
      obtain ⟨xl, hxl⟩ := get_of_lt (xs := d3) (k := p) (by omega)
      obtain ⟨xh, hxh⟩ := get_of_lt (xs := d6) (k := p) (by omega)
      have hgl := getD_of hxl
      have hgh := getD_of hxh
      have hxm := hjd3.cut.le _ _ hxl
      have hxm3 := hjd6.cut.le _ _ hxh
      have hxm2 := cnt_le l p l.length
      have hxf := hok.few
      have hlp := hle p
      rw [hgl, hgh] at hlp
      refine Gx.regionQ Try.mixed (by kernel_rfl) ?_
      refine Gq.val rfl rfl rfl (val_move rfl rfl) ?_
      refine Gq.val rfl rfl rfl (val_move rfl rfl) ?_
      refine Gq.val rfl rfl rfl (val_ixa rfl Try.underlying23 Try.ty3 rfl rfl (j := p) (rfl) (reach_own (k := 1) rfl hxl)) ?_
      refine Gq.val rfl rfl rfl (val_load rfl Try.ty3 rfl rfl (cell_own (i := 0) (k := 1) rfl hxl rfl)) ?_
      refine Gq.val rfl rfl rfl (val_move rfl rfl) ?_
      refine Gq.val rfl rfl rfl (val_move rfl rfl) ?_
      refine Gq.val rfl rfl rfl (val_ixa rfl Try.underlying23 Try.ty3 rfl rfl (j := p) (rfl) (reach_own (k := 0) rfl hxh)) ?_
      refine Gq.val rfl rfl rfl (val_load rfl Try.ty3 rfl rfl (cell_own (i := 0) (k := 0) rfl hxh rfl)) ?_
      refine Gq.val rfl rfl rfl (val_eql rfl rfl rfl) ?_
      refine Gq.done ?_
      refine Gx.thenN ?_
      refine Gx.dec rfl (fun h9 => ?_) (fun h9 => ?_)
      · have hpp : p ≠ p0 := fun q => by subst q; rw [hgl, hgh] at hp1; omega
        refine Gx.exit ?_
        refine Gx.thenE ?_
        refine Gx.blkE ?_
        refine Gx.thenN ?_
        refine Gx.region ?_
        refine Gx.val rfl rfl rfl (val_move rfl rfl) ?_
        refine Gx.val rfl rfl rfl (val_add rfl rfl rfl (r := ((p + 1 : Nat) : Int)) (w64 (by omega) (by omega))) ?_
        refine Gx.val rfl rfl rfl (val_assign rfl rfl) ?_
        refine Gx.done ?_
        refine Gx.thenN ?_
        exact Gx.round (p + 1) (by first | omega | (dsimp only; omega)) (by first | omega | (dsimp only; omega)) ((.cons rfl (.cons rfl (.cons rfl (.cons rfl (.cons rfl .nil)))))) rfl
      · refine Gx.skip ?_
        refine Gx.thenN ?_
        refine Gx.seq ?_
        refine Gx.region ?_
        refine Gx.eff rfl rfl rfl (eff_buildNil (f := FN) (sz := 1) (e := 3) rfl Try.underlying23 (fun w => by first | (go_simp; done) | (go_simp; rfl))) ?_
        rintro v10 _ ⟨hiv10, rfl⟩
        refine Gx.val rfl rfl rfl (val_move rfl rfl) ?_
        refine Gx.eff rfl rfl rfl (eff_pushAll (k := 0) (ys := d3) rfl Try.eN FN_len FN_one rfl rfl (fun w H => (H.at_ (k := 2) rfl).sls (by first | omega | (simp; omega))) rfl (by simp; omega) (by simp; omega)) ?_
        rintro v11 _ ⟨hiv11, rfl⟩
        refine Gx.norm (l' := [Hp.own FN 1 v11 d3, Hp.own FN 1 u5 d6, Hp.own FN 1 u2 d3]) rfl ?_
        refine Gx.val rfl rfl rfl (val_assign rfl rfl) ?_
        refine Gx.done ?_
        refine Gx.thenN ?_
        refine Gx.seq ?_
        refine Gx.region ?_
        refine Gx.val rfl rfl rfl (val_move rfl rfl) ?_
        refine Gx.val rfl rfl rfl (val_move rfl rfl) ?_
        refine Gx.val rfl rfl rfl (val_move rfl rfl) ?_
        refine Gx.val rfl rfl rfl (val_move rfl rfl) ?_
        refine Gx.val rfl rfl rfl (val_ixa rfl Try.underlying23 Try.ty3 rfl rfl (j := p) (rfl) (reach_own (k := 0) rfl hxl)) ?_
        refine Gx.val rfl rfl rfl (val_load rfl Try.ty3 rfl rfl (cell_own (i := 0) (k := 0) rfl hxl rfl)) ?_
        refine Gx.val rfl rfl rfl (val_add rfl rfl rfl (r := ((xl + 1 : Nat) : Int)) (w64 (by omega) (by omega))) ?_
        refine Gx.val rfl rfl rfl (val_ixa rfl Try.underlying23 Try.ty3 rfl rfl (j := p) (rfl) (reach_own (k := 0) rfl hxl)) ?_
        refine Gx.eff0 rfl rfl (eff_storeElA (xl + 1) rfl Try.ty3 rfl rfl rfl FN_one (k := 0) rfl FN_len hxl (l' := [Hp.own FN 1 v11 (d3.set p (xl + 1)), Hp.own FN 1 u5 d6, Hp.own FN 1 u2 d3]) rfl) ?_
        rintro _ _ rfl
        refine Gx.done ?_
        refine Gx.thenN ?_
        refine Gx.seq ?_
        refine Gx.region ?_
        refine Gx.val rfl rfl rfl (val_move rfl rfl) ?_
        refine Gx.val rfl rfl rfl (val_move rfl rfl) ?_
        refine Gx.val rfl rfl rfl (val_move rfl rfl) ?_
        refine Gx.eff rfl rfl rfl (eff_callE (vs := [.int .i64 ((n : Nat) : Int), hv, v11]) rfl Try.fn10 rfl (R := fun v => ∃ t : Bool, v = .tuple #[.bool t, .int .i64 0] ∧ (t = true ↔ Whole l (d3.set p (xl + 1)))) (fun w H => whole_any hE hok (hjd3.cut.set p (x := xl + 1) (by omega)) (hs.below H.below) ((H.at_ (k := 0) rfl).sls (by first | omega | (rw [near_len (by omega)]; omega) | (rw [full_len]; omega) | (rw [List.length_set]; omega) | (simp; omega))))) ?_
        rintro _ _ ⟨⟨b12, rfl, hb12⟩, rfl⟩
        refine Gx.val rfl rfl rfl (val_move rfl rfl) ?_
        refine Gx.val rfl rfl rfl (val_extract rfl rfl rfl) ?_
        refine Gx.val rfl rfl rfl (val_extract rfl rfl rfl) ?_
        refine Gx.val rfl rfl rfl (val_assign rfl rfl) ?_
        refine Gx.val rfl rfl rfl (val_assign rfl rfl) ?_
        refine Gx.done ?_
        refine Gx.thenN ?_
        refine Gx.seq ?_
        refine Gx.seq ?_
        refine Gx.region ?_
        refine Gx.val rfl rfl rfl (val_move rfl rfl) ?_
        refine Gx.val rfl rfl rfl (Val.cast (val_neq rfl rfl rfl) (v' := .bool false) rfl) ?_
        refine Gx.done ?_
        refine Gx.thenN ?_
        refine Gx.f rfl ?_
        refine Gx.skip ?_
        refine Gx.thenN ?_
        refine Gx.seq ?_
        refine Gx.region ?_
        refine Gx.val rfl rfl rfl (val_move rfl rfl) ?_
        refine Gx.done ?_
        refine Gx.thenN ?_
        refine Gx.bool rfl (fun h13 => ?_) (fun h13 => ?_)
        · refine Gx.seq ?_
          refine Gx.region ?_
          refine Gx.val rfl rfl rfl (val_assign rfl rfl) ?_
          refine Gx.done ?_
          refine Gx.thenN ?_
          refine Gx.ret ?_
          refine Gx.blkR ?_
          refine Gx.thenR ?_
          refine Gx.thenR ?_
          refine Gx.blkR ?_
          refine Gx.thenR ?_
          refine Gx.ret1 Try.results5 rfl ?_
          rfl
        · have hpp : p ≠ p0 := fun q => by subst q; rw [hgl] at hp2; rw [hb12.2 hp2] at h13; cases h13
          refine Gx.skip ?_
          refine Gx.blkN ?_
          refine Gx.thenN ?_
          refine Gx.region ?_
          refine Gx.val rfl rfl rfl (val_move rfl rfl) ?_
          refine Gx.val rfl rfl rfl (val_add rfl rfl rfl (r := ((p + 1 : Nat) : Int)) (w64 (by omega) (by omega))) ?_
          refine Gx.val rfl rfl rfl (val_assign rfl rfl) ?_
          refine Gx.done ?_
          refine Gx.thenN ?_
          refine Gx.drop 0 rfl ?_
          exact Gx.round (p + 1) (by first | omega | (dsimp only; omega)) (by first | omega | (dsimp only; omega)) ((.cons rfl (.cons rfl (.cons rfl (.cons rfl (.cons rfl .nil)))))) rfl
    · refine Gx.exit ?_
      refine Gx.thenE ?_
      refine Gx.thenE ?_
      refine Gx.blkE ?_
      refine Gx.thenN ?_
      refine Gx.seq ?_
      refine Gx.region ?_
      refine Gx.val rfl rfl rfl (val_assign rfl rfl) ?_
      refine Gx.done ?_
      refine Gx.thenN ?_
      refine Gx.ret ?_
      exfalso; omega

theorem step_any {W : World} {n : Int} {r : List Ev} {a b : List Int} {hv av bv : Value} (hs : SlS FE 3 W hv r) (ha : SlS FZ 1 W av a) (hb : SlS FZ 1 W bv b) :
    Calls Try.prog 5 #[.int .i64 n, hv, av, bv] W fun e w' => e = .returned (.bool true) ∧ Below W.heap.size W w' := by
  by_cases hE : OkE n r
  · obtain ⟨m, l, rfl, rfl, hE, hok⟩ := ok_of hE
    by_cases hab : CutZ m l a ∧ CutZ m l b
    · obtain ⟨d1, rfl, h1⟩ := cut_of hab.1
      obtain ⟨d2, rfl, h2⟩ := cut_of hab.2
      exact step_yes hE hok h1 h2 (sls_raw.1 hs) (sls_nat.2 ha) (sls_nat.2 hb)
    · exact step_un hE hok (fun h1 h2 => hab ⟨(GoodC.iff hE hok).1 h1, (GoodC.iff hE hok).1 h2⟩) hs ha hb
  · exact step_no hE (fun h1 _ => by obtain ⟨_, _, _, _, _, h3, _⟩ := h1; exact hE h3) hs ha hb
end Go.Proofs.Ytffnjojdjbdfcaa
