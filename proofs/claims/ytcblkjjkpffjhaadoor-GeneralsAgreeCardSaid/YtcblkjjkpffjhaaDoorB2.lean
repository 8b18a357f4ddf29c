/- Those who are loyal agree. The walk. No condition. -/
import Derived.Test.YtcblkjjkpffjhaaDoorM1
import Derived.Test.YtcblkjjkpffjhaaDoorK
namespace Go.Proofs.YtcblkjjkpffjhaaDoor
open Go.RowKit
set_option linter.unusedVariables false
set_option linter.unusedSimpArgs false
set_option maxRecDepth 100000

theorem bit_c {L i : Nat} {w : World} (hx : L < 4294967296) (hi : i < 32) : Calls Tryd.prog 8 #[.int .u32 ((L : Nat) : Int), .int .i64 ((i : Nat) : Int)] w fun e w' => e = .returned (.bool (L.testBit i)) ∧ Below w.heap.size w w' :=
  (bit_any L (i : Int) w hx).mono fun e w' ⟨he, hw⟩ => ⟨by rw [he, bitF_nat hi], by rw [← hw]; exact Below.refl _ _⟩
theorem out_c {L n : Nat} {w : World} (hx : L < 4294967296) (hn : n ≤ 32) : Calls Tryd.prog 6 #[.int .u32 ((L : Nat) : Int), .int .i64 ((n : Nat) : Int)] w fun e w' => e = .returned (.bool (outsideF L (n : Int))) ∧ Below w.heap.size w w' :=
  (outside_any L (n : Int) w hx (by omega) (by omega)).mono fun e w' ⟨he, hw⟩ => ⟨he, by rw [← hw]; exact Below.refl _ _⟩
theorem few_c {L n m : Nat} {w : World} (hx : L < 4294967296) (hn : n ≤ 32) : Calls Tryd.prog 7 #[.int .u32 ((L : Nat) : Int), .int .i64 ((n : Nat) : Int), .int .i64 ((m : Nat) : Int)] w fun e w' => e = .returned (.bool (fewF L (n : Int) (m : Int))) ∧ Below w.heap.size w w' :=
  (few_any L (n : Int) (m : Int) w hx (by omega) (by omega)).mono fun e w' ⟨he, hw⟩ => ⟨he, by rw [← hw]; exact Below.refl _ _⟩
theorem out_iff {L n : Nat} (hx : L < 4294967296) : outsideF L (n : Int) = false ↔ L >>> n = 0 := by
  constructor
  · intro h
    refine Nat.eq_of_testBit_eq fun i => ?_
    rw [Nat.testBit_shiftRight, Nat.zero_testBit]
    by_cases hi : n + i < 32
    · refine Bool.eq_false_iff.2 fun hb => ?_
      rw [outside_no hi (by omega) hb] at h; cases h
    · exact Nat.testBit_lt_two_pow (Nat.lt_of_lt_of_le hx (Nat.pow_le_pow_right (show 0 < 2 by decide) (show 32 ≤ n + i by omega)))
  · intro h
    refine outside_yes fun j hj hn => ?_
    have := congrArg (·.testBit (j - n)) h
    simp only [Nat.testBit_shiftRight, Nat.zero_testBit] at this
    rwa [show n + (j - n) = j by omega] at this
theorem agree_no {W : World} {n m : Int} {tr li : Nat} {x : Bool} (hbad : n < 2 ∨ 7 < n ∨ m < 0 ∨ 2 < m) :
    Calls Tryd.prog 3 #[.int .i64 n, .int .i64 m, .int .u32 ((tr : Nat) : Int), .bool x, .int .u64 ((li : Nat) : Int)] W fun e w' => e = .returned (.bool true) ∧ Below W.heap.size W w' := by
  refine calls_pure (Gx.enter (l := []) Tryd.func3 rfl Tryd.ntmps3 rfl (Sat.start W) ?_)
  refine Gx.know (m' := [(0, .int .i64 n), (1, .int .i64 m), (2, .int .u32 ((tr : Nat) : Int)), (3, .bool x), (4, .int .u64 ((li : Nat) : Int))]) (.cons rfl (.cons rfl (.cons rfl (.cons rfl (.cons rfl .nil))))) ?_
  refine Gx.seq ?_
  refine Gx.region ?_
  refine Gx.val rfl rfl rfl (val_assign rfl rfl) ?_
  refine Gx.done ?_
  refine Gx.thenN ?_
  refine Gx.seq ?_
  refine Gx.region ?_
  refine Gx.val rfl rfl rfl (val_move rfl rfl) ?_
  refine Gx.val rfl rfl rfl (val_move rfl rfl) ?_
  refine Gx.val rfl rfl rfl (val_move rfl rfl) ?_
  refine Gx.val rfl rfl rfl (val_move rfl rfl) ?_
  refine Gx.val rfl rfl rfl (val_move rfl rfl) ?_
  refine Gx.val rfl rfl rfl (val_call (vs := [.int .i64 n, .int .i64 m, .int .u32 ((tr : Nat) : Int), .bool x, .int .u64 ((li : Nat) : Int)]) rfl Tryd.fn5 rfl (fun w H => play_no (by omega))) ?_
  refine Gx.val rfl rfl rfl (val_move rfl rfl) ?_
  refine Gx.val rfl rfl rfl (val_extract rfl rfl rfl) ?_
  refine Gx.val rfl rfl rfl (val_extract rfl rfl rfl) ?_
  refine Gx.val rfl rfl rfl (val_assign rfl rfl) ?_
  refine Gx.val rfl rfl rfl (val_assign rfl rfl) ?_
  refine Gx.done ?_
  refine Gx.thenN ?_
  refine Gx.seq ?_
  refine Gx.seq ?_
  refine Gx.region ?_
  refine Gx.val rfl rfl rfl (val_move rfl rfl) ?_
  refine Gx.val rfl rfl rfl (val_lss rfl rfl rfl) ?_
  refine Gx.val rfl rfl rfl (val_move rfl rfl) ?_
  refine Gx.cases (t := 27) rfl (fun h1 => ?_) (fun h1 => ?_)
  · refine Gx.skipg rfl rfl rfl rfl rfl rfl ?_
    refine Gx.skipg rfl rfl rfl rfl rfl rfl ?_
    refine Gx.val rfl rfl rfl (val_pickT rfl rfl rfl) ?_
    refine Gx.val rfl rfl rfl (val_move rfl rfl) ?_
    refine Gx.skipg rfl rfl rfl rfl rfl rfl ?_
    refine Gx.skipg rfl rfl rfl rfl rfl rfl ?_
    refine Gx.val rfl rfl rfl (val_pickT rfl rfl rfl) ?_
    refine Gx.val rfl rfl rfl (val_move rfl rfl) ?_
    refine Gx.skipg rfl rfl rfl rfl rfl rfl ?_
    refine Gx.skipg rfl rfl rfl rfl rfl rfl ?_
    refine Gx.val rfl rfl rfl (val_pickT rfl rfl rfl) ?_
    refine Gx.val rfl rfl rfl (val_move rfl rfl) ?_
    refine Gx.skipg rfl rfl rfl rfl rfl rfl ?_
    refine Gx.skipg rfl rfl rfl rfl rfl rfl ?_
    refine Gx.skipg rfl rfl rfl rfl rfl rfl ?_
    refine Gx.val rfl rfl rfl (val_pickT rfl rfl rfl) ?_
    refine Gx.done ?_
    refine Gx.thenN ?_
    refine Gx.t rfl ?_
    refine Gx.seq ?_
    refine Gx.region ?_
    refine Gx.val rfl rfl rfl (val_move rfl rfl) ?_
    refine Gx.val rfl rfl rfl (Val.cast (val_neq rfl rfl rfl) (v' := .bool true) rfl) ?_
    refine Gx.val rfl rfl rfl (val_assign rfl rfl) ?_
    refine Gx.done ?_
    refine Gx.thenN ?_
    refine Gx.ret ?_
    refine Gx.thenR ?_
    refine Gx.ret1 Tryd.results3 rfl ?_
    rfl
  · refine Gx.valg rfl rfl rfl rfl rfl (val_move rfl rfl) ?_
    refine Gx.valg rfl rfl rfl rfl rfl (val_gtr rfl rfl rfl) ?_
    refine Gx.val rfl rfl rfl (val_pickF rfl rfl rfl) ?_
    refine Gx.val rfl rfl rfl (val_move rfl rfl) ?_
    refine Gx.cases (t := 31) rfl (fun h2 => ?_) (fun h2 => ?_)
    · refine Gx.skipg rfl rfl rfl rfl rfl rfl ?_
      refine Gx.skipg rfl rfl rfl rfl rfl rfl ?_
      refine Gx.val rfl rfl rfl (val_pickT rfl rfl rfl) ?_
      refine Gx.val rfl rfl rfl (val_move rfl rfl) ?_
      refine Gx.skipg rfl rfl rfl rfl rfl rfl ?_
      refine Gx.skipg rfl rfl rfl rfl rfl rfl ?_
      refine Gx.val rfl rfl rfl (val_pickT rfl rfl rfl) ?_
      refine Gx.val rfl rfl rfl (val_move rfl rfl) ?_
      refine Gx.skipg rfl rfl rfl rfl rfl rfl ?_
      refine Gx.skipg rfl rfl rfl rfl rfl rfl ?_
      refine Gx.skipg rfl rfl rfl rfl rfl rfl ?_
      refine Gx.val rfl rfl rfl (val_pickT rfl rfl rfl) ?_
      refine Gx.done ?_
      refine Gx.thenN ?_
      refine Gx.t rfl ?_
      refine Gx.seq ?_
      refine Gx.region ?_
      refine Gx.val rfl rfl rfl (val_move rfl rfl) ?_
      refine Gx.val rfl rfl rfl (Val.cast (val_neq rfl rfl rfl) (v' := .bool true) rfl) ?_
      refine Gx.val rfl rfl rfl (val_assign rfl rfl) ?_
      refine Gx.done ?_
      refine Gx.thenN ?_
      refine Gx.ret ?_
      refine Gx.thenR ?_
      refine Gx.ret1 Tryd.results3 rfl ?_
      rfl
    · refine Gx.valg rfl rfl rfl rfl rfl (val_move rfl rfl) ?_
      refine Gx.valg rfl rfl rfl rfl rfl (val_lss rfl rfl rfl) ?_
      refine Gx.val rfl rfl rfl (val_pickF rfl rfl rfl) ?_
      refine Gx.val rfl rfl rfl (val_move rfl rfl) ?_
      refine Gx.cases (t := 35) rfl (fun h3 => ?_) (fun h3 => ?_)
      · refine Gx.skipg rfl rfl rfl rfl rfl rfl ?_
        refine Gx.skipg rfl rfl rfl rfl rfl rfl ?_
        refine Gx.val rfl rfl rfl (val_pickT rfl rfl rfl) ?_
        refine Gx.val rfl rfl rfl (val_move rfl rfl) ?_
        refine Gx.skipg rfl rfl rfl rfl rfl rfl ?_
        refine Gx.skipg rfl rfl rfl rfl rfl rfl ?_
        refine Gx.skipg rfl rfl rfl rfl rfl rfl ?_
        refine Gx.val rfl rfl rfl (val_pickT rfl rfl rfl) ?_
        refine Gx.done ?_
        refine Gx.thenN ?_
        refine Gx.t rfl ?_
        refine Gx.seq ?_
        refine Gx.region ?_
        refine Gx.val rfl rfl rfl (val_move rfl rfl) ?_
        refine Gx.val rfl rfl rfl (Val.cast (val_neq rfl rfl rfl) (v' := .bool true) rfl) ?_
        refine Gx.val rfl rfl rfl (val_assign rfl rfl) ?_
        refine Gx.done ?_
        refine Gx.thenN ?_
        refine Gx.ret ?_
        refine Gx.thenR ?_
        refine Gx.ret1 Tryd.results3 rfl ?_
        rfl
      · refine Gx.valg rfl rfl rfl rfl rfl (val_move rfl rfl) ?_
        refine Gx.valg rfl rfl rfl rfl rfl (val_gtr rfl rfl rfl) ?_
        refine Gx.val rfl rfl rfl (val_pickF rfl rfl rfl) ?_
        refine Gx.val rfl rfl rfl (val_move rfl rfl) ?_
        refine Gx.cases (t := 39) rfl (fun h4 => ?_) (fun h4 => ?_)
        · refine Gx.skipg rfl rfl rfl rfl rfl rfl ?_
          refine Gx.skipg rfl rfl rfl rfl rfl rfl ?_
          refine Gx.skipg rfl rfl rfl rfl rfl rfl ?_
          refine Gx.val rfl rfl rfl (val_pickT rfl rfl rfl) ?_
          refine Gx.done ?_
          refine Gx.thenN ?_
          refine Gx.t rfl ?_
          refine Gx.seq ?_
          refine Gx.region ?_
          refine Gx.val rfl rfl rfl (val_move rfl rfl) ?_
          refine Gx.val rfl rfl rfl (Val.cast (val_neq rfl rfl rfl) (v' := .bool true) rfl) ?_
          refine Gx.val rfl rfl rfl (val_assign rfl rfl) ?_
          refine Gx.done ?_
          refine Gx.thenN ?_
          refine Gx.ret ?_
          refine Gx.thenR ?_
          refine Gx.ret1 Tryd.results3 rfl ?_
          rfl
        · exfalso; omega

theorem agree_no2 {W : World} {n m tr li : Nat} {x : Bool} (htr : tr < 4294967296) (h2n : 2 ≤ n) (h7n : n ≤ 7) (h2m : m ≤ 2) (hz : tr >>> n ≠ 0) :
    Calls Tryd.prog 3 #[.int .i64 ((n : Nat) : Int), .int .i64 ((m : Nat) : Int), .int .u32 ((tr : Nat) : Int), .bool x, .int .u64 ((li : Nat) : Int)] W fun e w' => e = .returned (.bool true) ∧ Below W.heap.size W w' := by
  refine calls_pure (Gx.enter (l := []) Tryd.func3 rfl Tryd.ntmps3 rfl (Sat.start W) ?_)
  refine Gx.know (m' := [(0, .int .i64 ((n : Nat) : Int)), (1, .int .i64 ((m : Nat) : Int)), (2, .int .u32 ((tr : Nat) : Int)), (3, .bool x), (4, .int .u64 ((li : Nat) : Int))]) (.cons rfl (.cons rfl (.cons rfl (.cons rfl (.cons rfl .nil))))) ?_
  refine Gx.seq ?_
  refine Gx.region ?_
  refine Gx.val rfl rfl rfl (val_assign rfl rfl) ?_
  refine Gx.done ?_
  refine Gx.thenN ?_
  refine Gx.seq ?_
  refine Gx.region ?_
  refine Gx.val rfl rfl rfl (val_move rfl rfl) ?_
  refine Gx.val rfl rfl rfl (val_move rfl rfl) ?_
  refine Gx.val rfl rfl rfl (val_move rfl rfl) ?_
  refine Gx.val rfl rfl rfl (val_move rfl rfl) ?_
  refine Gx.val rfl rfl rfl (val_move rfl rfl) ?_
  refine Gx.val rfl rfl rfl (val_call (vs := [.int .i64 ((n : Nat) : Int), .int .i64 ((m : Nat) : Int), .int .u32 ((tr : Nat) : Int), .bool x, .int .u64 ((li : Nat) : Int)]) rfl Tryd.fn5 rfl (fun w H => play_no2 h2n h7n h2m hz)) ?_
  refine Gx.val rfl rfl rfl (val_move rfl rfl) ?_
  refine Gx.val rfl rfl rfl (val_extract rfl rfl rfl) ?_
  refine Gx.val rfl rfl rfl (val_extract rfl rfl rfl) ?_
  refine Gx.val rfl rfl rfl (val_assign rfl rfl) ?_
  refine Gx.val rfl rfl rfl (val_assign rfl rfl) ?_
  refine Gx.done ?_
  refine Gx.thenN ?_
  refine Gx.seq ?_
  refine Gx.seq ?_
  refine Gx.region ?_
  refine Gx.val rfl rfl rfl (val_move rfl rfl) ?_
  refine Gx.val rfl rfl rfl (val_lss rfl rfl rfl) ?_
  refine Gx.val rfl rfl rfl (val_move rfl rfl) ?_
  refine Gx.slot (t := 27) (v := .bool false) (look_decF rfl (by omega)) ?_
  refine Gx.valg rfl rfl rfl rfl rfl (val_move rfl rfl) ?_
  refine Gx.valg rfl rfl rfl rfl rfl (val_gtr rfl rfl rfl) ?_
  refine Gx.val rfl rfl rfl (val_pickF rfl rfl rfl) ?_
  refine Gx.val rfl rfl rfl (val_move rfl rfl) ?_
  refine Gx.slot (t := 31) (v := .bool false) (look_decF rfl (by omega)) ?_
  refine Gx.valg rfl rfl rfl rfl rfl (val_move rfl rfl) ?_
  refine Gx.valg rfl rfl rfl rfl rfl (val_lss rfl rfl rfl) ?_
  refine Gx.val rfl rfl rfl (val_pickF rfl rfl rfl) ?_
  refine Gx.val rfl rfl rfl (val_move rfl rfl) ?_
  refine Gx.slot (t := 35) (v := .bool false) (look_decF rfl (by omega)) ?_
  refine Gx.valg rfl rfl rfl rfl rfl (val_move rfl rfl) ?_
  refine Gx.valg rfl rfl rfl rfl rfl (val_gtr rfl rfl rfl) ?_
  refine Gx.val rfl rfl rfl (val_pickF rfl rfl rfl) ?_
  refine Gx.val rfl rfl rfl (val_move rfl rfl) ?_
  refine Gx.slot (t := 39) (v := .bool false) (look_decF rfl (by omega)) ?_
  refine Gx.valg rfl rfl rfl rfl rfl (val_move rfl rfl) ?_
  refine Gx.valg rfl rfl rfl rfl rfl (val_move rfl rfl) ?_
  refine Gx.valg rfl rfl rfl rfl rfl (val_call (vs := [.int .u32 ((tr : Nat) : Int), .int .i64 ((n : Nat) : Int)]) rfl Tryd.fn6 rfl (fun w H => out_c htr (by omega))) ?_
  refine Gx.val rfl rfl rfl (val_pickF rfl rfl rfl) ?_
  refine Gx.done ?_
  refine Gx.thenN ?_
  refine Gx.boolT rfl (by cases hq : outsideF tr ((n : Nat) : Int) with | false => exact absurd ((out_iff htr).1 hq) hz | true => rfl) ?_
  refine Gx.seq ?_
  refine Gx.region ?_
  refine Gx.val rfl rfl rfl (val_move rfl rfl) ?_
  refine Gx.val rfl rfl rfl (Val.cast (val_neq rfl rfl rfl) (v' := .bool true) rfl) ?_
  refine Gx.val rfl rfl rfl (val_assign rfl rfl) ?_
  refine Gx.done ?_
  refine Gx.thenN ?_
  refine Gx.ret ?_
  refine Gx.thenR ?_
  refine Gx.ret1 Tryd.results3 rfl ?_
  rfl

theorem agree_yes {W : World} {n m tr li : Nat} {x : Bool} (hT : HT W) (htr : tr < 4294967296) (h2n : 2 ≤ n) (h7n : n ≤ 7) (h2m : m ≤ 2) (hli : li < 18446744073709551616) (hz : tr >>> n = 0) :
    Calls Tryd.prog 3 #[.int .i64 ((n : Nat) : Int), .int .i64 ((m : Nat) : Int), .int .u32 ((tr : Nat) : Int), .bool x, .int .u64 ((li : Nat) : Int)] W fun e w' => e = .returned (.bool true) ∧ Below W.heap.size W w' := by
  refine calls_pure (Gx.enter (l := []) Tryd.func3 rfl Tryd.ntmps3 rfl (Sat.start W) ?_)
  refine Gx.know (m' := [(0, .int .i64 ((n : Nat) : Int)), (1, .int .i64 ((m : Nat) : Int)), (2, .int .u32 ((tr : Nat) : Int)), (3, .bool x), (4, .int .u64 ((li : Nat) : Int))]) (.cons rfl (.cons rfl (.cons rfl (.cons rfl (.cons rfl .nil))))) ?_
  refine Gx.seq ?_
  refine Gx.region ?_
  refine Gx.val rfl rfl rfl (val_assign rfl rfl) ?_
  refine Gx.done ?_
  refine Gx.thenN ?_
  refine Gx.seq ?_
  refine Gx.region ?_
  refine Gx.val rfl rfl rfl (val_move rfl rfl) ?_
  refine Gx.val rfl rfl rfl (val_move rfl rfl) ?_
  refine Gx.val rfl rfl rfl (val_move rfl rfl) ?_
  refine Gx.val rfl rfl rfl (val_move rfl rfl) ?_
  refine Gx.val rfl rfl rfl (val_move rfl rfl) ?_
  refine Gx.callB rfl rfl rfl (vs := [.int .i64 ((n : Nat) : Int), .int .i64 ((m : Nat) : Int), .int .u32 ((tr : Nat) : Int), .bool x, .int .u64 ((li : Nat) : Int)]) rfl Tryd.fn5 rfl (R := fun v w' => ∃ lv, v = .tuple #[lv, .int .i64 0] ∧ SlS FB 1 w' lv (heldL (sprd ⟨tr, li⟩ m [0] (2 ^ n - 2) x) n)) (fun w H => play_ok (hT.below H.below) h2n h7n h2m htr hli hz) ?_
  rintro _ W2 ⟨lv1, rfl, hlv1⟩ H3
  have hW4 := H3.below
  have hlllv1 := heldL_len (sprd ⟨tr, li⟩ m [0] (2 ^ n - 2) x) n
  refine Gx.val rfl rfl rfl (val_move rfl rfl) ?_
  refine Gx.val rfl rfl rfl (val_extract rfl rfl rfl) ?_
  refine Gx.val rfl rfl rfl (val_extract rfl rfl rfl) ?_
  refine Gx.val rfl rfl rfl (val_assign rfl rfl) ?_
  refine Gx.val rfl rfl rfl (val_assign rfl rfl) ?_
  refine Gx.done ?_
  refine Gx.thenN ?_
  refine Gx.seq ?_
  refine Gx.seq ?_
  refine Gx.region ?_
  refine Gx.val rfl rfl rfl (val_move rfl rfl) ?_
  refine Gx.val rfl rfl rfl (val_lss rfl rfl rfl) ?_
  refine Gx.val rfl rfl rfl (val_move rfl rfl) ?_
  refine Gx.slot (t := 27) (v := .bool false) (look_decF rfl (by omega)) ?_
  refine Gx.valg rfl rfl rfl rfl rfl (val_move rfl rfl) ?_
  refine Gx.valg rfl rfl rfl rfl rfl (val_gtr rfl rfl rfl) ?_
  refine Gx.val rfl rfl rfl (val_pickF rfl rfl rfl) ?_
  refine Gx.val rfl rfl rfl (val_move rfl rfl) ?_
  refine Gx.slot (t := 31) (v := .bool false) (look_decF rfl (by omega)) ?_
  refine Gx.valg rfl rfl rfl rfl rfl (val_move rfl rfl) ?_
  refine Gx.valg rfl rfl rfl rfl rfl (val_lss rfl rfl rfl) ?_
  refine Gx.val rfl rfl rfl (val_pickF rfl rfl rfl) ?_
  refine Gx.val rfl rfl rfl (val_move rfl rfl) ?_
  refine Gx.slot (t := 35) (v := .bool false) (look_decF rfl (by omega)) ?_
  refine Gx.valg rfl rfl rfl rfl rfl (val_move rfl rfl) ?_
  refine Gx.valg rfl rfl rfl rfl rfl (val_gtr rfl rfl rfl) ?_
  refine Gx.val rfl rfl rfl (val_pickF rfl rfl rfl) ?_
  refine Gx.val rfl rfl rfl (val_move rfl rfl) ?_
  refine Gx.slot (t := 39) (v := .bool false) (look_decF rfl (by omega)) ?_
  refine Gx.valg rfl rfl rfl rfl rfl (val_move rfl rfl) ?_
  refine Gx.valg rfl rfl rfl rfl rfl (val_move rfl rfl) ?_
  refine Gx.valg rfl rfl rfl rfl rfl (val_call (vs := [.int .u32 ((tr : Nat) : Int), .int .i64 ((n : Nat) : Int)]) rfl Tryd.fn6 rfl (fun w H => out_c htr (by omega))) ?_
  refine Gx.val rfl rfl rfl (val_pickF rfl rfl rfl) ?_
  refine Gx.done ?_
  refine Gx.thenN ?_
  refine Gx.boolF rfl ((out_iff htr).2 hz) ?_
  refine Gx.skip ?_
  refine Gx.thenN ?_
  refine Gx.seq ?_
  refine Gx.seq ?_
  refine Gx.region ?_
  refine Gx.val rfl rfl rfl (val_move rfl rfl) ?_
  refine Gx.val rfl rfl rfl (Val.cast (val_neq rfl rfl rfl) (v' := .bool false) rfl) ?_
  refine Gx.val rfl rfl rfl (val_move rfl rfl) ?_
  refine Gx.valg rfl rfl rfl rfl rfl (val_move rfl rfl) ?_
  refine Gx.valg rfl rfl rfl rfl rfl (val_len rfl Tryd.underlying24 rfl (len_base hlv1)) ?_
  refine Gx.valg rfl rfl rfl rfl rfl (val_move rfl rfl) ?_
  refine Gx.valg rfl rfl rfl rfl rfl (val_sub rfl rfl rfl (r := ((n - 1 : Nat) : Int)) (w64 (by omega) (by omega))) ?_
  refine Gx.valg rfl rfl rfl rfl rfl (val_neq rfl rfl rfl) ?_
  refine Gx.val rfl rfl rfl (val_pickF rfl rfl rfl) ?_
  refine Gx.done ?_
  refine Gx.thenN ?_
  refine Gx.decF rfl (by omega) ?_
  refine Gx.skip ?_
  refine Gx.thenN ?_
  refine Gx.seq ?_
  refine Gx.seq ?_
  refine Gx.region ?_
  refine Gx.val rfl rfl rfl (val_move rfl rfl) ?_
  refine Gx.val rfl rfl rfl (val_move rfl rfl) ?_
  refine Gx.val rfl rfl rfl (val_mul rfl rfl rfl (r := ((3 * m : Nat) : Int)) (w64 (by omega) (by omega))) ?_
  refine Gx.val rfl rfl rfl (val_leq rfl rfl rfl) ?_
  refine Gx.val rfl rfl rfl (val_move rfl rfl) ?_
  refine Gx.cases (t := 59) rfl (fun h5 => ?_) (fun h5 => ?_)
  · refine Gx.skipg rfl rfl rfl rfl rfl rfl ?_
    refine Gx.skipg rfl rfl rfl rfl rfl rfl ?_
    refine Gx.skipg rfl rfl rfl rfl rfl rfl ?_
    refine Gx.skipg rfl rfl rfl rfl rfl rfl ?_
    refine Gx.skipg rfl rfl rfl rfl rfl rfl ?_
    refine Gx.val rfl rfl rfl (val_pickT rfl rfl rfl) ?_
    refine Gx.done ?_
    refine Gx.thenN ?_
    refine Gx.t rfl ?_
    refine Gx.seq ?_
    refine Gx.region ?_
    refine Gx.val rfl rfl rfl (val_assign rfl rfl) ?_
    refine Gx.done ?_
    refine Gx.thenN ?_
    refine Gx.ret ?_
    refine Gx.thenR ?_
    refine Gx.ret1B hW4 Tryd.results3 rfl ?_
    rfl
  · refine Gx.valg rfl rfl rfl rfl rfl (val_move rfl rfl) ?_
    refine Gx.valg rfl rfl rfl rfl rfl (val_move rfl rfl) ?_
    refine Gx.valg rfl rfl rfl rfl rfl (val_move rfl rfl) ?_
    refine Gx.valg rfl rfl rfl rfl rfl (val_call (vs := [.int .u32 ((tr : Nat) : Int), .int .i64 ((n : Nat) : Int), .int .i64 ((m : Nat) : Int)]) rfl Tryd.fn7 rfl (fun w H => few_c htr (by omega))) ?_
    refine Gx.valg rfl rfl rfl rfl rfl (val_not rfl rfl) ?_
    refine Gx.val rfl rfl rfl (val_pickF rfl rfl rfl) ?_
    refine Gx.done ?_
    refine Gx.thenN ?_
    refine Gx.bool rfl (fun h6 => ?_) (fun h6 => ?_)
    · refine Gx.seq ?_
      refine Gx.region ?_
      refine Gx.val rfl rfl rfl (val_assign rfl rfl) ?_
      refine Gx.done ?_
      refine Gx.thenN ?_
      refine Gx.ret ?_
      refine Gx.thenR ?_
      refine Gx.ret1B hW4 Tryd.results3 rfl ?_
      rfl
    · refine Gx.skip ?_
      refine Gx.thenN ?_
      refine Gx.seq ?_
      have hfw : fewF tr ((n : Nat) : Int) ((m : Nat) : Int) = true := by simpa using h6
      have hsz : sizeF tr ≤ m := by unfold fewF at hfw; simp at hfw; omega
      have h3m : 3 * m < n := by omega
      refine Gx.region ?_
      refine Gx.val rfl rfl rfl (val_assign rfl rfl) ?_
      refine Gx.done ?_
      refine Gx.thenN ?_
      refine Gx.seq ?_
      refine Gx.region ?_
      refine Gx.val rfl rfl rfl (val_assign rfl rfl) ?_
      refine Gx.done ?_
      refine Gx.thenN ?_
      refine Gx.seq ?_
      refine Gx.seq ?_
      refine Gx.region ?_
      refine Gx.val rfl rfl rfl (val_assign rfl rfl) ?_
      refine Gx.done ?_
      refine Gx.thenN ?_
      refine Gx.block ?_
      refine Gx.loop (ι := Nat × Bool × Bool) (fun ξ => (1 ≤ ξ.1 ∧ ξ.1 ≤ n) ∧ (ξ.2.1 = true → ∃ j, (1 ≤ j ∧ j < n) ∧ ¬ tr.testBit j = true ∧ ξ.2.2 = (sprd ⟨tr, li⟩ m [0] (2 ^ n - 2) x) j)) (fun ξ => [(0, .int .i64 ((n : Nat) : Int)), (1, .int .i64 ((m : Nat) : Int)), (2, .int .u32 ((tr : Nat) : Int)), (3, .bool x), (4, .int .u64 ((li : Nat) : Int)), (11, lv1), (13, .bool ξ.2.1), (14, .bool ξ.2.2), (15, .int .i64 ((ξ.1 : Nat) : Int))]) (fun ξ => []) (fun ξ => n - ξ.1) (1, false, false) ⟨⟨Nat.le_refl _, by dsimp only; omega⟩, fun h => by cases h⟩ ((.cons rfl (.cons rfl (.cons rfl (.cons rfl (.cons rfl (.cons rfl (.cons rfl (.cons rfl (.cons rfl .nil)))))))))) rfl ?_
      rintro ⟨i, sm, hd⟩ ⟨hi, hso⟩
      dsimp only at hi hso
      refine Gx.know (m' := [(0, .int .i64 ((n : Nat) : Int)), (1, .int .i64 ((m : Nat) : Int)), (2, .int .u32 ((tr : Nat) : Int)), (3, .bool x), (4, .int .u64 ((li : Nat) : Int)), (11, lv1), (13, .bool sm), (14, .bool hd), (15, .int .i64 ((i : Nat) : Int))]) (.cons rfl (.cons rfl (.cons rfl (.cons rfl (.cons rfl (.cons rfl (.cons rfl (.cons rfl (.cons rfl .nil))))))))) (Gx.norm (l' := []) rfl ?_)
      refine Gx.seq ?_
      refine Gx.seq ?_
      refine Gx.region ?_
      refine Gx.val rfl rfl rfl (val_move rfl rfl) ?_
      refine Gx.val rfl rfl rfl (val_move rfl rfl) ?_
      refine Gx.val rfl rfl rfl (val_lss rfl rfl rfl) ?_
      refine Gx.done ?_
      refine Gx.thenN ?_
      refine Gx.dec rfl (fun h7 => ?_) (fun h7 => ?_)
      · refine Gx.skip ?_
        refine Gx.thenN ?_
        refine Gx.seq ?_
        refine Gx.block ?_
        refine Gx.seq ?_
        refine Gx.seq ?_
        refine Gx.region ?_
        refine Gx.val rfl rfl rfl (val_move rfl rfl) ?_
        refine Gx.val rfl rfl rfl (val_move rfl rfl) ?_
        refine Gx.val rfl rfl rfl (val_call (vs := [.int .u32 ((tr : Nat) : Int), .int .i64 ((i : Nat) : Int)]) rfl Tryd.fn8 rfl (fun w H => bit_c htr (by first | decide | omega))) ?_
        refine Gx.done ?_
        refine Gx.thenN ?_
        refine Gx.bool rfl (fun h8 => ?_) (fun h8 => ?_)
        · refine Gx.exit ?_
          refine Gx.thenE ?_
          refine Gx.blkE ?_
          refine Gx.thenN ?_
          refine Gx.region ?_
          refine Gx.val rfl rfl rfl (val_move rfl rfl) ?_
          refine Gx.val rfl rfl rfl (val_add rfl rfl rfl (r := ((i + 1 : Nat) : Int)) (w64 (by omega) (by omega))) ?_
          refine Gx.val rfl rfl rfl (val_assign rfl rfl) ?_
          refine Gx.done ?_
          refine Gx.thenN ?_
          exact Gx.round (i + 1, sm, hd) ⟨by dsimp only; omega, hso⟩ (by first | omega | (dsimp only; omega)) ((.cons rfl (.cons rfl (.cons rfl (.cons rfl (.cons rfl (.cons rfl (.cons rfl (.cons rfl (.cons rfl .nil)))))))))) rfl
        · refine Gx.skip ?_
          refine Gx.thenN ?_
          refine Gx.seq ?_
          refine Gx.seq ?_
          obtain ⟨x9, hx9⟩ := get_of_lt (xs := (heldL (sprd ⟨tr, li⟩ m [0] (2 ^ n - 2) x) n)) (k := i - 1) (by omega)
          have htl : ¬ tr.testBit i = true := by rw [h8]; decide
          have he1 : x9 = (sprd ⟨tr, li⟩ m [0] (2 ^ n - 2) x) i := Option.some.inj (hx9.symm.trans (by have := heldL_get (sprd ⟨tr, li⟩ m [0] (2 ^ n - 2) x) (n := n) (k := i - 1) (by omega); rwa [show i - 1 + 1 = i by omega] at this))
          have hA : sm = true → x9 = hd := fun q => by obtain ⟨j, hj, hjl, hh⟩ := hso q; rw [he1, hh]; exact play_agree (c := ⟨tr, li⟩) h2n h7n h3m hsz ⟨hi.1, by omega⟩ hj htl hjl
          have hB : tr.testBit 0 = false → x9 = x := fun q => by rw [he1]; exact play_loyal (c := ⟨tr, li⟩) h2n h7n h3m hsz (by show ¬ tr.testBit 0 = true; rw [q]; decide) ⟨hi.1, by omega⟩ htl
          refine Gx.region ?_
          refine Gx.val rfl rfl rfl (val_move rfl rfl) ?_
          refine Gx.val rfl rfl rfl (val_move rfl rfl) ?_
          refine Gx.casesB (t := 75) rfl (fun h10 => ?_) (fun h10 => ?_)
          · refine Gx.valg rfl rfl rfl rfl rfl (val_move rfl rfl) ?_
            refine Gx.valg rfl rfl rfl rfl rfl (val_move rfl rfl) ?_
            refine Gx.valg rfl rfl rfl rfl rfl (val_sub rfl rfl rfl (r := ((i - 1 : Nat) : Int)) (w64 (by omega) (by omega))) ?_
            refine Gx.valg rfl rfl rfl rfl rfl (val_ixa rfl Tryd.underlying24 Tryd.ty4 rfl rfl (j := i - 1) (rfl) (reach_base hlv1 hx9)) ?_
            refine Gx.valg rfl rfl rfl rfl rfl (val_load rfl Tryd.ty4 rfl rfl (cell_base (i := 0) (sz := 1) (j := i - 1) hlv1 hx9 rfl)) ?_
            refine Gx.valg rfl rfl rfl rfl rfl (val_move rfl rfl) ?_
            refine Gx.valg rfl rfl rfl rfl rfl (val_neqB Tryd.underlying4 rfl rfl rfl) ?_
            refine Gx.val rfl rfl rfl (val_pickT rfl rfl rfl) ?_
            refine Gx.val rfl rfl rfl (val_move rfl rfl) ?_
            refine Gx.casesB (t := 84) rfl (fun h11 => ?_) (fun h11 => ?_)
            · refine Gx.skipg rfl rfl rfl rfl rfl rfl ?_
              refine Gx.skipg rfl rfl rfl rfl rfl rfl ?_
              refine Gx.skipg rfl rfl rfl rfl rfl rfl ?_
              refine Gx.skipg rfl rfl rfl rfl rfl rfl ?_
              refine Gx.skipu rfl rfl rfl rfl rfl ?_
              refine Gx.skipu rfl rfl rfl rfl rfl ?_
              refine Gx.skipu rfl rfl rfl rfl rfl ?_
              refine Gx.skipu rfl rfl rfl rfl rfl ?_
              refine Gx.skipu rfl rfl rfl rfl rfl ?_
              refine Gx.skipu rfl rfl rfl rfl rfl ?_
              refine Gx.skipu rfl rfl rfl rfl rfl ?_
              refine Gx.skipg rfl rfl rfl rfl rfl rfl ?_
              refine Gx.val rfl rfl rfl (val_pickT rfl rfl rfl) ?_
              refine Gx.done ?_
              refine Gx.thenN ?_
              refine Gx.t rfl ?_
              refine Gx.seq ?_
              refine Gx.region ?_
              refine Gx.val rfl rfl rfl (val_assign rfl rfl) ?_
              refine Gx.done ?_
              refine Gx.thenN ?_
              refine Gx.ret ?_
              refine Gx.thenR ?_
              refine Gx.blkR ?_
              refine Gx.thenR ?_
              refine Gx.thenR ?_
              refine Gx.blkR ?_
              refine Gx.thenR ?_
              exfalso
              clear hso
              simp_all
            · refine Gx.valg rfl rfl rfl rfl rfl (val_move rfl rfl) ?_
              refine Gx.valg rfl rfl rfl rfl rfl (val_call (vs := [.int .u32 ((tr : Nat) : Int), .int .i64 0]) rfl Tryd.fn8 rfl (fun w H => bit_c htr (by first | decide | omega))) ?_
              refine Gx.valg rfl rfl rfl rfl rfl (val_not rfl rfl) ?_
              refine Gx.valg rfl rfl rfl rfl rfl (val_move rfl rfl) ?_
              refine Gx.casesB (t := 88) rfl (fun h12 => ?_) (fun h12 => ?_)
              · refine Gx.valg rfl rfl rfl rfl rfl (val_move rfl rfl) ?_
                refine Gx.valg rfl rfl rfl rfl rfl (val_move rfl rfl) ?_
                refine Gx.valg rfl rfl rfl rfl rfl (val_sub rfl rfl rfl (r := ((i - 1 : Nat) : Int)) (w64 (by omega) (by omega))) ?_
                refine Gx.valg rfl rfl rfl rfl rfl (val_ixa rfl Tryd.underlying24 Tryd.ty4 rfl rfl (j := i - 1) (rfl) (reach_base hlv1 hx9)) ?_
                refine Gx.valg rfl rfl rfl rfl rfl (val_load rfl Tryd.ty4 rfl rfl (cell_base (i := 0) (sz := 1) (j := i - 1) hlv1 hx9 rfl)) ?_
                refine Gx.valg rfl rfl rfl rfl rfl (val_move rfl rfl) ?_
                refine Gx.valg rfl rfl rfl rfl rfl (val_neqB Tryd.underlying4 rfl rfl rfl) ?_
                refine Gx.valg rfl rfl rfl rfl rfl (val_pickT rfl rfl rfl) ?_
                refine Gx.val rfl rfl rfl (val_pickF rfl rfl rfl) ?_
                refine Gx.done ?_
                refine Gx.thenN ?_
                refine Gx.bool rfl (fun h13 => ?_) (fun h13 => ?_)
                · refine Gx.seq ?_
                  refine Gx.region ?_
                  refine Gx.val rfl rfl rfl (val_assign rfl rfl) ?_
                  refine Gx.done ?_
                  refine Gx.thenN ?_
                  refine Gx.ret ?_
                  refine Gx.thenR ?_
                  refine Gx.blkR ?_
                  refine Gx.thenR ?_
                  refine Gx.thenR ?_
                  refine Gx.blkR ?_
                  refine Gx.thenR ?_
                  exfalso
                  clear hso
                  simp_all
                · refine Gx.skip ?_
                  refine Gx.thenN ?_
                  refine Gx.seq ?_
                  refine Gx.region ?_
                  refine Gx.val rfl rfl rfl (val_assign rfl rfl) ?_
                  refine Gx.done ?_
                  refine Gx.thenN ?_
                  refine Gx.region ?_
                  refine Gx.val rfl rfl rfl (val_move rfl rfl) ?_
                  refine Gx.val rfl rfl rfl (val_move rfl rfl) ?_
                  refine Gx.val rfl rfl rfl (val_sub rfl rfl rfl (r := ((i - 1 : Nat) : Int)) (w64 (by omega) (by omega))) ?_
                  refine Gx.val rfl rfl rfl (val_ixa rfl Tryd.underlying24 Tryd.ty4 rfl rfl (j := i - 1) (rfl) (reach_base hlv1 hx9)) ?_
                  refine Gx.val rfl rfl rfl (val_load rfl Tryd.ty4 rfl rfl (cell_base (i := 0) (sz := 1) (j := i - 1) hlv1 hx9 rfl)) ?_
                  refine Gx.val rfl rfl rfl (val_assign rfl rfl) ?_
                  refine Gx.done ?_
                  refine Gx.blkN ?_
                  refine Gx.thenN ?_
                  refine Gx.region ?_
                  refine Gx.val rfl rfl rfl (val_move rfl rfl) ?_
                  refine Gx.val rfl rfl rfl (val_add rfl rfl rfl (r := ((i + 1 : Nat) : Int)) (w64 (by omega) (by omega))) ?_
                  refine Gx.val rfl rfl rfl (val_assign rfl rfl) ?_
                  refine Gx.done ?_
                  refine Gx.thenN ?_
                  exact Gx.round (i + 1, true, x9) ⟨by dsimp only; omega, fun _ => ⟨i, ⟨hi.1, by omega⟩, htl, he1⟩⟩ (by first | omega | (dsimp only; omega)) ((.cons rfl (.cons rfl (.cons rfl (.cons rfl (.cons rfl (.cons rfl (.cons rfl (.cons rfl (.cons rfl .nil)))))))))) rfl
              · refine Gx.skipg rfl rfl rfl rfl rfl rfl ?_
                refine Gx.skipg rfl rfl rfl rfl rfl rfl ?_
                refine Gx.skipg rfl rfl rfl rfl rfl rfl ?_
                refine Gx.skipg rfl rfl rfl rfl rfl rfl ?_
                refine Gx.skipg rfl rfl rfl rfl rfl rfl ?_
                refine Gx.skipg rfl rfl rfl rfl rfl rfl ?_
                refine Gx.skipg rfl rfl rfl rfl rfl rfl ?_
                refine Gx.valg rfl rfl rfl rfl rfl (val_pickF rfl rfl rfl) ?_
                refine Gx.val rfl rfl rfl (val_pickF rfl rfl rfl) ?_
                refine Gx.done ?_
                refine Gx.thenN ?_
                refine Gx.f rfl ?_
                refine Gx.skip ?_
                refine Gx.thenN ?_
                refine Gx.seq ?_
                refine Gx.region ?_
                refine Gx.val rfl rfl rfl (val_assign rfl rfl) ?_
                refine Gx.done ?_
                refine Gx.thenN ?_
                refine Gx.region ?_
                refine Gx.val rfl rfl rfl (val_move rfl rfl) ?_
                refine Gx.val rfl rfl rfl (val_move rfl rfl) ?_
                refine Gx.val rfl rfl rfl (val_sub rfl rfl rfl (r := ((i - 1 : Nat) : Int)) (w64 (by omega) (by omega))) ?_
                refine Gx.val rfl rfl rfl (val_ixa rfl Tryd.underlying24 Tryd.ty4 rfl rfl (j := i - 1) (rfl) (reach_base hlv1 hx9)) ?_
                refine Gx.val rfl rfl rfl (val_load rfl Tryd.ty4 rfl rfl (cell_base (i := 0) (sz := 1) (j := i - 1) hlv1 hx9 rfl)) ?_
                refine Gx.val rfl rfl rfl (val_assign rfl rfl) ?_
                refine Gx.done ?_
                refine Gx.blkN ?_
                refine Gx.thenN ?_
                refine Gx.region ?_
                refine Gx.val rfl rfl rfl (val_move rfl rfl) ?_
                refine Gx.val rfl rfl rfl (val_add rfl rfl rfl (r := ((i + 1 : Nat) : Int)) (w64 (by omega) (by omega))) ?_
                refine Gx.val rfl rfl rfl (val_assign rfl rfl) ?_
                refine Gx.done ?_
                refine Gx.thenN ?_
                exact Gx.round (i + 1, true, x9) ⟨by dsimp only; omega, fun _ => ⟨i, ⟨hi.1, by omega⟩, htl, he1⟩⟩ (by first | omega | (dsimp only; omega)) ((.cons rfl (.cons rfl (.cons rfl (.cons rfl (.cons rfl (.cons rfl (.cons rfl (.cons rfl (.cons rfl .nil)))))))))) rfl
          · refine Gx.skipg rfl rfl rfl rfl rfl rfl ?_
            refine Gx.skipg rfl rfl rfl rfl rfl rfl ?_
            refine Gx.skipg rfl rfl rfl rfl rfl rfl ?_
            refine Gx.skipg rfl rfl rfl rfl rfl rfl ?_
            refine Gx.skipg rfl rfl rfl rfl rfl rfl ?_
            refine Gx.skipg rfl rfl rfl rfl rfl rfl ?_
            refine Gx.skipg rfl rfl rfl rfl rfl rfl ?_
            refine Gx.val rfl rfl rfl (val_pickF rfl rfl rfl) ?_
            refine Gx.val rfl rfl rfl (val_move rfl rfl) ?_
            refine Gx.valg rfl rfl rfl rfl rfl (val_move rfl rfl) ?_
            refine Gx.valg rfl rfl rfl rfl rfl (val_call (vs := [.int .u32 ((tr : Nat) : Int), .int .i64 0]) rfl Tryd.fn8 rfl (fun w H => bit_c htr (by first | decide | omega))) ?_
            refine Gx.valg rfl rfl rfl rfl rfl (val_not rfl rfl) ?_
            refine Gx.valg rfl rfl rfl rfl rfl (val_move rfl rfl) ?_
            refine Gx.casesB (t := 88) rfl (fun h14 => ?_) (fun h14 => ?_)
            · refine Gx.valg rfl rfl rfl rfl rfl (val_move rfl rfl) ?_
              refine Gx.valg rfl rfl rfl rfl rfl (val_move rfl rfl) ?_
              refine Gx.valg rfl rfl rfl rfl rfl (val_sub rfl rfl rfl (r := ((i - 1 : Nat) : Int)) (w64 (by omega) (by omega))) ?_
              refine Gx.valg rfl rfl rfl rfl rfl (val_ixa rfl Tryd.underlying24 Tryd.ty4 rfl rfl (j := i - 1) (rfl) (reach_base hlv1 hx9)) ?_
              refine Gx.valg rfl rfl rfl rfl rfl (val_load rfl Tryd.ty4 rfl rfl (cell_base (i := 0) (sz := 1) (j := i - 1) hlv1 hx9 rfl)) ?_
              refine Gx.valg rfl rfl rfl rfl rfl (val_move rfl rfl) ?_
              refine Gx.valg rfl rfl rfl rfl rfl (val_neqB Tryd.underlying4 rfl rfl rfl) ?_
              refine Gx.valg rfl rfl rfl rfl rfl (val_pickT rfl rfl rfl) ?_
              refine Gx.val rfl rfl rfl (val_pickF rfl rfl rfl) ?_
              refine Gx.done ?_
              refine Gx.thenN ?_
              refine Gx.bool rfl (fun h15 => ?_) (fun h15 => ?_)
              · refine Gx.seq ?_
                refine Gx.region ?_
                refine Gx.val rfl rfl rfl (val_assign rfl rfl) ?_
                refine Gx.done ?_
                refine Gx.thenN ?_
                refine Gx.ret ?_
                refine Gx.thenR ?_
                refine Gx.blkR ?_
                refine Gx.thenR ?_
                refine Gx.thenR ?_
                refine Gx.blkR ?_
                refine Gx.thenR ?_
                exfalso
                clear hso
                simp_all
              · refine Gx.skip ?_
                refine Gx.thenN ?_
                refine Gx.seq ?_
                refine Gx.region ?_
                refine Gx.val rfl rfl rfl (val_assign rfl rfl) ?_
                refine Gx.done ?_
                refine Gx.thenN ?_
                refine Gx.region ?_
                refine Gx.val rfl rfl rfl (val_move rfl rfl) ?_
                refine Gx.val rfl rfl rfl (val_move rfl rfl) ?_
                refine Gx.val rfl rfl rfl (val_sub rfl rfl rfl (r := ((i - 1 : Nat) : Int)) (w64 (by omega) (by omega))) ?_
                refine Gx.val rfl rfl rfl (val_ixa rfl Tryd.underlying24 Tryd.ty4 rfl rfl (j := i - 1) (rfl) (reach_base hlv1 hx9)) ?_
                refine Gx.val rfl rfl rfl (val_load rfl Tryd.ty4 rfl rfl (cell_base (i := 0) (sz := 1) (j := i - 1) hlv1 hx9 rfl)) ?_
                refine Gx.val rfl rfl rfl (val_assign rfl rfl) ?_
                refine Gx.done ?_
                refine Gx.blkN ?_
                refine Gx.thenN ?_
                refine Gx.region ?_
                refine Gx.val rfl rfl rfl (val_move rfl rfl) ?_
                refine Gx.val rfl rfl rfl (val_add rfl rfl rfl (r := ((i + 1 : Nat) : Int)) (w64 (by omega) (by omega))) ?_
                refine Gx.val rfl rfl rfl (val_assign rfl rfl) ?_
                refine Gx.done ?_
                refine Gx.thenN ?_
                exact Gx.round (i + 1, true, x9) ⟨by dsimp only; omega, fun _ => ⟨i, ⟨hi.1, by omega⟩, htl, he1⟩⟩ (by first | omega | (dsimp only; omega)) ((.cons rfl (.cons rfl (.cons rfl (.cons rfl (.cons rfl (.cons rfl (.cons rfl (.cons rfl (.cons rfl .nil)))))))))) rfl
            · refine Gx.skipg rfl rfl rfl rfl rfl rfl ?_
              refine Gx.skipg rfl rfl rfl rfl rfl rfl ?_
              refine Gx.skipg rfl rfl rfl rfl rfl rfl ?_
              refine Gx.skipg rfl rfl rfl rfl rfl rfl ?_
              refine Gx.skipg rfl rfl rfl rfl rfl rfl ?_
              refine Gx.skipg rfl rfl rfl rfl rfl rfl ?_
              refine Gx.skipg rfl rfl rfl rfl rfl rfl ?_
              refine Gx.valg rfl rfl rfl rfl rfl (val_pickF rfl rfl rfl) ?_
              refine Gx.val rfl rfl rfl (val_pickF rfl rfl rfl) ?_
              refine Gx.done ?_
              refine Gx.thenN ?_
              refine Gx.f rfl ?_
              refine Gx.skip ?_
              refine Gx.thenN ?_
              refine Gx.seq ?_
              refine Gx.region ?_
              refine Gx.val rfl rfl rfl (val_assign rfl rfl) ?_
              refine Gx.done ?_
              refine Gx.thenN ?_
              refine Gx.region ?_
              refine Gx.val rfl rfl rfl (val_move rfl rfl) ?_
              refine Gx.val rfl rfl rfl (val_move rfl rfl) ?_
              refine Gx.val rfl rfl rfl (val_sub rfl rfl rfl (r := ((i - 1 : Nat) : Int)) (w64 (by omega) (by omega))) ?_
              refine Gx.val rfl rfl rfl (val_ixa rfl Tryd.underlying24 Tryd.ty4 rfl rfl (j := i - 1) (rfl) (reach_base hlv1 hx9)) ?_
              refine Gx.val rfl rfl rfl (val_load rfl Tryd.ty4 rfl rfl (cell_base (i := 0) (sz := 1) (j := i - 1) hlv1 hx9 rfl)) ?_
              refine Gx.val rfl rfl rfl (val_assign rfl rfl) ?_
              refine Gx.done ?_
              refine Gx.blkN ?_
              refine Gx.thenN ?_
              refine Gx.region ?_
              refine Gx.val rfl rfl rfl (val_move rfl rfl) ?_
              refine Gx.val rfl rfl rfl (val_add rfl rfl rfl (r := ((i + 1 : Nat) : Int)) (w64 (by omega) (by omega))) ?_
              refine Gx.val rfl rfl rfl (val_assign rfl rfl) ?_
              refine Gx.done ?_
              refine Gx.thenN ?_
              exact Gx.round (i + 1, true, x9) ⟨by dsimp only; omega, fun _ => ⟨i, ⟨hi.1, by omega⟩, htl, he1⟩⟩ (by first | omega | (dsimp only; omega)) ((.cons rfl (.cons rfl (.cons rfl (.cons rfl (.cons rfl (.cons rfl (.cons rfl (.cons rfl (.cons rfl .nil)))))))))) rfl
      · refine Gx.exit ?_
        refine Gx.thenE ?_
        refine Gx.thenE ?_
        refine Gx.blkE ?_
        refine Gx.thenN ?_
        refine Gx.seq ?_
        refine Gx.region ?_
        refine Gx.val rfl rfl rfl (val_assign rfl rfl) ?_
        refine Gx.done ?_
        refine Gx.thenN ?_
        refine Gx.ret ?_
        refine Gx.ret1B hW4 Tryd.results3 rfl ?_
        rfl

theorem agree_any {W : World} {n m t z : Int} {x : Bool} (hT : HT W) (t0 : 0 ≤ t) (t1 : t ≤ 4294967295) (h0 : 0 ≤ z) (h1 : z ≤ 18446744073709551615) :
    Calls Tryd.prog 3 #[.int .i64 n, .int .i64 m, .int .u32 t, .bool x, .int .u64 z] W fun e w' => e = .returned (.bool true) ∧ Below W.heap.size W w' := by
  obtain ⟨li, rfl⟩ := Int.eq_ofNat_of_zero_le h0
  obtain ⟨tr, rfl⟩ := Int.eq_ofNat_of_zero_le t0
  by_cases h : n < 2 ∨ 7 < n ∨ m < 0 ∨ 2 < m
  · exact agree_no h
  · obtain ⟨a, rfl⟩ : ∃ a : Nat, n = (a : Int) := ⟨n.toNat, by omega⟩
    obtain ⟨b, rfl⟩ : ∃ b : Nat, m = (b : Int) := ⟨m.toNat, by omega⟩
    by_cases hz : tr >>> a = 0
    · exact agree_yes hT (by omega) (by omega) (by omega) (by omega) (by omega) hz
    · exact agree_no2 (by omega) (by omega) (by omega) (by omega) hz
end Go.Proofs.YtcblkjjkpffjhaaDoor
