/- Each for one of some; each for all of some. The walks. No condition. -/
import Derived.Test.YtplcflifofomjaaB1
import Derived.Test.YtplcflifofomjaaA6
namespace Go.Proofs.Ytplcflifofomjaa
open Go.RowKit
set_option linter.unusedVariables false
set_option linter.unusedSimpArgs false
set_option maxRecDepth 100000

theorem inside1_any {W : World} {n i : Int} {va : Value} (ha : SlS FZ 1 W va [i]) : Calls Try.prog 9 #[.int .i64 n, va] W fun e w' => e = .returned (.bool (isN n i)) ∧ Below W.heap.size W w' := by
  refine calls_pure (Gx.enter (l := []) Try.func9 rfl Try.ntmps9 rfl (Sat.start W) ?_)
  refine Gx.know (m' := [(0, .int .i64 n), (1, va)]) (.cons rfl (.cons rfl .nil)) ?_
  refine Gx.seq ?_
  refine Gx.region ?_
  refine Gx.val rfl rfl rfl (val_assign rfl rfl) ?_
  refine Gx.done ?_
  refine Gx.thenN ?_
  refine Gx.seq ?_
  refine Gx.seq ?_
  refine Gx.region ?_
  refine Gx.val rfl rfl rfl (val_move rfl rfl) ?_
  refine Gx.val rfl rfl rfl (val_len rfl Try.underlying24 rfl (len_base ha)) ?_
  refine Gx.val rfl rfl rfl (val_move rfl rfl) ?_
  refine Gx.done ?_
  refine Gx.thenN ?_
  refine Gx.block ?_
  refine Gx.loop (ι := Nat) (fun ξ => (ξ ≤ 1) ∧ (0 < ξ → 0 ≤ i ∧ i < n)) (fun ξ => [(0, .int .i64 n), (7, va), (8, .int .i64 ((([i]).length : Nat) : Int)), (9, .int .i64 ((ξ : Nat) : Int))]) (fun ξ => []) (fun ξ => 1 - ξ) 0 ⟨by first | omega | (dsimp only; omega), fun h => absurd h (Nat.not_lt_zero _)⟩ ((.cons rfl (.cons rfl (.cons rfl (.cons rfl .nil))))) rfl ?_
  rintro k ⟨hk, hi⟩
  refine Gx.know (m' := [(0, .int .i64 n), (7, va), (8, .int .i64 ((([i]).length : Nat) : Int)), (9, .int .i64 ((k : Nat) : Int))]) (.cons rfl (.cons rfl (.cons rfl (.cons rfl .nil)))) (Gx.norm (l' := []) rfl ?_)
  refine Gx.seq ?_
  refine Gx.region ?_
  refine Gx.val rfl rfl rfl (val_lss rfl rfl rfl) ?_
  refine Gx.done ?_
  refine Gx.thenN ?_
  refine Gx.seq ?_
  refine Gx.dec rfl (fun h1 => ?_) (fun h1 => ?_)
  · refine Gx.skip ?_
    refine Gx.thenN ?_
    refine Gx.seq ?_
    refine Gx.block ?_
    refine Gx.seq ?_
    refine Gx.region ?_
    obtain ⟨x2, hx2⟩ := get_of_lt (xs := [i]) (k := k) (by first | omega | (have h7 : ([i] : List Int).length = 1 := rfl; omega))
    refine Gx.val rfl rfl rfl (val_ixa rfl Try.underlying24 Try.ty3 rfl rfl (j := k) (rfl) (reach_base ha hx2)) ?_
    refine Gx.val rfl rfl rfl (val_load rfl Try.ty3 rfl rfl (cell_base (i := 0) ha hx2 rfl)) ?_
    refine Gx.val rfl rfl rfl (val_assign rfl rfl) ?_
    refine Gx.done ?_
    refine Gx.thenN ?_
    refine Gx.seq ?_
    obtain rfl : k = 0 := by have h7 : ([i] : List Int).length = 1 := rfl; omega
    obtain rfl : i = x2 := by have h7 := hx2; simpa using h7
    refine Gx.region ?_
    refine Gx.val rfl rfl rfl (val_move rfl rfl) ?_
    refine Gx.val rfl rfl rfl (val_lss rfl rfl rfl) ?_
    refine Gx.val rfl rfl rfl (val_move rfl rfl) ?_
    refine Gx.cases (t := 15) rfl (fun h3 => ?_) (fun h3 => ?_)
    · refine Gx.skipg rfl rfl rfl rfl rfl rfl ?_
      refine Gx.skipg rfl rfl rfl rfl rfl rfl ?_
      refine Gx.skipg rfl rfl rfl rfl rfl rfl ?_
      refine Gx.val rfl rfl rfl (val_pickT rfl rfl rfl) ?_
      refine Gx.done ?_
      refine Gx.thenN ?_
      refine Gx.t rfl ?_
      refine Gx.seq ?_
      refine Gx.region ?_
      refine Gx.val rfl rfl rfl (val_assign rfl rfl) ?_
      refine Gx.done ?_
      refine Gx.thenN ?_
      refine Gx.ret ?_
      refine Gx.blkR ?_
      refine Gx.thenR ?_
      refine Gx.thenR ?_
      refine Gx.blkR ?_
      refine Gx.thenR ?_
      refine Gx.ret1 Try.results9 rfl ?_
      exact (congrArg Value.bool (decide_eq_false (fun h => by omega))).symm
    · refine Gx.valg rfl rfl rfl rfl rfl (val_move rfl rfl) ?_
      refine Gx.valg rfl rfl rfl rfl rfl (val_move rfl rfl) ?_
      refine Gx.valg rfl rfl rfl rfl rfl (val_geq rfl rfl rfl) ?_
      refine Gx.val rfl rfl rfl (val_pickF rfl rfl rfl) ?_
      refine Gx.done ?_
      refine Gx.thenN ?_
      refine Gx.dec rfl (fun h4 => ?_) (fun h4 => ?_)
      · refine Gx.seq ?_
        refine Gx.region ?_
        refine Gx.val rfl rfl rfl (val_assign rfl rfl) ?_
        refine Gx.done ?_
        refine Gx.thenN ?_
        refine Gx.ret ?_
        refine Gx.blkR ?_
        refine Gx.thenR ?_
        refine Gx.thenR ?_
        refine Gx.blkR ?_
        refine Gx.thenR ?_
        refine Gx.ret1 Try.results9 rfl ?_
        exact (congrArg Value.bool (decide_eq_false (fun h => by omega))).symm
      · refine Gx.skip ?_
        refine Gx.blkN ?_
        refine Gx.thenN ?_
        refine Gx.region ?_
        refine Gx.val rfl rfl rfl (val_add rfl rfl rfl (r := 1) (w64 (by omega) (by omega))) ?_
        refine Gx.val rfl rfl rfl (val_move rfl rfl) ?_
        refine Gx.done ?_
        refine Gx.thenN ?_
        exact Gx.round 1 ⟨by first | omega | (dsimp only; omega), fun _ => by omega⟩ (by first | omega | (dsimp only; omega)) ((.cons rfl (.cons rfl (.cons rfl (.cons rfl .nil))))) rfl
  · refine Gx.exit ?_
    refine Gx.thenE ?_
    refine Gx.thenE ?_
    refine Gx.blkE ?_
    refine Gx.thenN ?_
    refine Gx.seq ?_
    refine Gx.region ?_
    refine Gx.val rfl rfl rfl (val_assign rfl rfl) ?_
    refine Gx.done ?_
    refine Gx.thenN ?_
    refine Gx.ret ?_
    refine Gx.ret1 Try.results9 rfl ?_
    have h7 : ([i] : List Int).length = 1 := rfl
    exact (congrArg Value.bool (decide_eq_true (hi (by omega)))).symm

theorem any_no {W : World} {n i : Int} {nv : Value} {l : List Nd} (h : NdS W nv l) (hk : ¬ OkN n l) :
    Calls Try.prog 4 #[.int .i64 n, nv, .int .i64 i] W fun e w' => e = .returned (.bool true) ∧ Below W.heap.size W w' := by
  refine calls_pure (Gx.enter (l := []) Try.func4 rfl Try.ntmps4 rfl (Sat.start W) ?_)
  refine Gx.know (m' := [(0, .int .i64 n), (1, nv), (2, .int .i64 i)]) (.cons rfl (.cons rfl (.cons rfl .nil))) ?_
  refine Gx.seq ?_
  refine Gx.region ?_
  refine Gx.val rfl rfl rfl (val_assign rfl rfl) ?_
  refine Gx.done ?_
  refine Gx.thenN ?_
  refine Gx.seq ?_
  refine Gx.region ?_
  refine Gx.val rfl rfl rfl (val_move rfl rfl) ?_
  refine Gx.val rfl rfl rfl (val_move rfl rfl) ?_
  refine Gx.eff rfl rfl rfl (eff_callE (vs := [.int .i64 n, nv]) rfl Try.fn7 rfl (R := fun v => ∃ c : Int, v = .tuple #[.slice none 0 0, .int .i64 c] ∧ c ≠ 0) (fun w H => stuck_no (h.below H.below) hk)) ?_
  rintro _ _ ⟨⟨c, rfl, hc⟩, rfl⟩
  refine Gx.val rfl rfl rfl (val_move rfl rfl) ?_
  refine Gx.val rfl rfl rfl (val_extract rfl rfl rfl) ?_
  refine Gx.val rfl rfl rfl (val_extract rfl rfl rfl) ?_
  refine Gx.val rfl rfl rfl (val_assign rfl rfl) ?_
  refine Gx.val rfl rfl rfl (val_assign rfl rfl) ?_
  refine Gx.done ?_
  refine Gx.thenN ?_
  refine Gx.seq ?_
  refine Gx.seq ?_
  refine Gx.region ?_
  refine Gx.val rfl rfl rfl (val_move rfl rfl) ?_
  refine Gx.val rfl rfl rfl (val_move rfl rfl) ?_
  refine Gx.val rfl rfl rfl (val_call (vs := [.int .i64 n, nv]) rfl Try.fn8 rfl (fun w H => needs_not (h.below H.below) hk)) ?_
  refine Gx.val rfl rfl rfl (Val.cast (val_not rfl rfl) (v' := .bool true) rfl) ?_
  refine Gx.val rfl rfl rfl (val_move rfl rfl) ?_
  refine Gx.skipg rfl rfl rfl rfl rfl rfl ?_
  refine Gx.skipg rfl rfl rfl rfl rfl rfl ?_
  refine Gx.skipg rfl rfl rfl rfl rfl rfl ?_
  refine Gx.skipg rfl rfl rfl rfl rfl rfl ?_
  refine Gx.skipg rfl rfl rfl rfl rfl rfl ?_
  refine Gx.val rfl rfl rfl (val_pickT rfl rfl rfl) ?_
  refine Gx.done ?_
  refine Gx.thenN ?_
  refine Gx.t rfl ?_
  refine Gx.seq ?_
  refine Gx.region ?_
  refine Gx.val rfl rfl rfl (val_assign rfl rfl) ?_
  refine Gx.done ?_
  refine Gx.thenN ?_
  refine Gx.ret ?_
  refine Gx.thenR ?_
  refine Gx.ret1 Try.results4 rfl ?_
  rfl

theorem any_out {W : World} {n : Nat} {i : Int} {nv : Value} {l : List Nd} (h : NdS W nv l) (hk : OkN (n : Int) l) (hi : isN (n : Int) i = false) :
    Calls Try.prog 4 #[.int .i64 ((n : Nat) : Int), nv, .int .i64 i] W fun e w' => e = .returned (.bool true) ∧ Below W.heap.size W w' := by
  refine calls_pure (Gx.enter (l := []) Try.func4 rfl Try.ntmps4 rfl (Sat.start W) ?_)
  refine Gx.know (m' := [(0, .int .i64 ((n : Nat) : Int)), (1, nv), (2, .int .i64 i)]) (.cons rfl (.cons rfl (.cons rfl .nil))) ?_
  refine Gx.seq ?_
  refine Gx.region ?_
  refine Gx.val rfl rfl rfl (val_assign rfl rfl) ?_
  refine Gx.done ?_
  refine Gx.thenN ?_
  refine Gx.seq ?_
  refine Gx.region ?_
  refine Gx.val rfl rfl rfl (val_move rfl rfl) ?_
  refine Gx.val rfl rfl rfl (val_move rfl rfl) ?_
  refine Gx.callB rfl rfl rfl (vs := [.int .i64 ((n : Nat) : Int), nv]) rfl Try.fn7 rfl (R := fun v w' => ∃ sv : Value, v = .tuple #[sv, .int .i64 0] ∧ SlS FN 1 w' sv (stuckN n l)) (fun w H => stuck_ok (h.below H.below) hk) ?_
  rintro _ W2 ⟨sv1, rfl, hsv1⟩ H3
  have hW4 := H3.below
  have hs5 := h.sl.below H3.below
  refine Gx.val rfl rfl rfl (val_move rfl rfl) ?_
  refine Gx.val rfl rfl rfl (val_extract rfl rfl rfl) ?_
  refine Gx.val rfl rfl rfl (val_extract rfl rfl rfl) ?_
  refine Gx.val rfl rfl rfl (val_assign rfl rfl) ?_
  refine Gx.val rfl rfl rfl (val_assign rfl rfl) ?_
  refine Gx.done ?_
  refine Gx.thenN ?_
  refine Gx.seq ?_
  refine Gx.seq ?_
  have hN2 := h.below hW4
  refine Gx.region ?_
  refine Gx.val rfl rfl rfl (val_move rfl rfl) ?_
  refine Gx.val rfl rfl rfl (val_move rfl rfl) ?_
  refine Gx.val rfl rfl rfl (val_call (vs := [.int .i64 ((n : Nat) : Int), nv]) rfl Try.fn8 rfl (fun w H => needs_yes (hN2.below H.below) hk)) ?_
  refine Gx.val rfl rfl rfl (Val.cast (val_not rfl rfl) (v' := .bool false) rfl) ?_
  refine Gx.val rfl rfl rfl (val_move rfl rfl) ?_
  refine Gx.valg rfl rfl rfl rfl rfl (val_move rfl rfl) ?_
  refine Gx.valg rfl rfl rfl rfl rfl (val_move rfl rfl) ?_
  refine Gx.effg rfl rfl rfl rfl rfl (eff_buildSlice rfl (qs := [(0, .int .i64 i)]) rfl rfl (cs := #[.int .i64 i]) (vs := [.int .i64 i]) (E := 3) rfl (fun w => by first | (go_simp; done) | (go_simp; rfl))) ?_
  rintro _ _ ⟨b6, rfl, rfl⟩
  refine Gx.part (k := 0) rfl (q := Hp.own FZ 1 (.slice (some ⟨b6, 0, none⟩) 1 1) ([i])) (own_of_rec (f := FZ) (xs := [i]) FZ_len rfl) ?_
  refine Gx.norm (l' := [Hp.own FZ 1 (.slice (some ⟨b6, 0, none⟩) 1 1) ([i])]) rfl ?_
  refine Gx.valg rfl rfl rfl rfl rfl (val_call (vs := [.int .i64 ((n : Nat) : Int), .slice (some ⟨b6, 0, none⟩) 1 1]) rfl Try.fn9 rfl (fun w H => hi ▸ inside1_any ((H.at_ (k := 0) rfl).sls (by first | omega | (simp; done) | (simp; omega))))) ?_
  refine Gx.valg rfl rfl rfl rfl rfl (Val.cast (val_not rfl rfl) (v' := .bool true) rfl) ?_
  refine Gx.val rfl rfl rfl (val_pickF rfl rfl rfl) ?_
  refine Gx.done ?_
  refine Gx.thenN ?_
  refine Gx.t rfl ?_
  refine Gx.seq ?_
  refine Gx.region ?_
  refine Gx.val rfl rfl rfl (val_assign rfl rfl) ?_
  refine Gx.done ?_
  refine Gx.thenN ?_
  refine Gx.ret ?_
  refine Gx.thenR ?_
  refine Gx.ret1B hW4 Try.results4 rfl ?_
  rfl

theorem rnd_no {W : World} {n i : Int} {nv : Value} {l : List Nd} (h : NdS W nv l) (hk : ¬ OkN n l) :
    Calls Try.prog 6 #[.int .i64 n, nv, .int .i64 i] W fun e w' => e = .returned (.bool true) ∧ Below W.heap.size W w' := by
  refine calls_pure (Gx.enter (l := []) Try.func6 rfl Try.ntmps6 rfl (Sat.start W) ?_)
  refine Gx.know (m' := [(0, .int .i64 n), (1, nv), (2, .int .i64 i)]) (.cons rfl (.cons rfl (.cons rfl .nil))) ?_
  refine Gx.seq ?_
  refine Gx.region ?_
  refine Gx.val rfl rfl rfl (val_assign rfl rfl) ?_
  refine Gx.done ?_
  refine Gx.thenN ?_
  refine Gx.seq ?_
  refine Gx.region ?_
  refine Gx.val rfl rfl rfl (val_move rfl rfl) ?_
  refine Gx.val rfl rfl rfl (val_move rfl rfl) ?_
  refine Gx.eff rfl rfl rfl (eff_callE (vs := [.int .i64 n, nv]) rfl Try.fn7 rfl (R := fun v => ∃ c : Int, v = .tuple #[.slice none 0 0, .int .i64 c] ∧ c ≠ 0) (fun w H => stuck_no (h.below H.below) hk)) ?_
  rintro _ _ ⟨⟨c, rfl, hc⟩, rfl⟩
  refine Gx.val rfl rfl rfl (val_move rfl rfl) ?_
  refine Gx.val rfl rfl rfl (val_extract rfl rfl rfl) ?_
  refine Gx.val rfl rfl rfl (val_extract rfl rfl rfl) ?_
  refine Gx.val rfl rfl rfl (val_assign rfl rfl) ?_
  refine Gx.val rfl rfl rfl (val_assign rfl rfl) ?_
  refine Gx.done ?_
  refine Gx.thenN ?_
  refine Gx.seq ?_
  refine Gx.seq ?_
  refine Gx.region ?_
  refine Gx.val rfl rfl rfl (val_move rfl rfl) ?_
  refine Gx.val rfl rfl rfl (val_move rfl rfl) ?_
  refine Gx.val rfl rfl rfl (val_call (vs := [.int .i64 n, nv]) rfl Try.fn8 rfl (fun w H => needs_not (h.below H.below) hk)) ?_
  refine Gx.val rfl rfl rfl (Val.cast (val_not rfl rfl) (v' := .bool true) rfl) ?_
  refine Gx.val rfl rfl rfl (val_move rfl rfl) ?_
  refine Gx.skipg rfl rfl rfl rfl rfl rfl ?_
  refine Gx.skipg rfl rfl rfl rfl rfl rfl ?_
  refine Gx.skipg rfl rfl rfl rfl rfl rfl ?_
  refine Gx.skipg rfl rfl rfl rfl rfl rfl ?_
  refine Gx.skipg rfl rfl rfl rfl rfl rfl ?_
  refine Gx.val rfl rfl rfl (val_pickT rfl rfl rfl) ?_
  refine Gx.done ?_
  refine Gx.thenN ?_
  refine Gx.t rfl ?_
  refine Gx.seq ?_
  refine Gx.region ?_
  refine Gx.val rfl rfl rfl (val_move rfl rfl) ?_
  refine Gx.val rfl rfl rfl (val_move rfl rfl) ?_
  refine Gx.val rfl rfl rfl (val_move rfl rfl) ?_
  refine Gx.eff rfl rfl rfl (eff_callE (vs := [.int .i64 n, nv, .int .i64 i]) rfl Try.fn16 rfl (R := fun v => ∃ c : Int, v = .tuple #[.bool false, .int .i64 c] ∧ c ≠ 0) (fun w H => round_no (h.below H.below) hk)) ?_
  rintro _ _ ⟨⟨c2, rfl, hc2⟩, rfl⟩
  refine Gx.val rfl rfl rfl (val_move rfl rfl) ?_
  refine Gx.val rfl rfl rfl (val_extract rfl rfl rfl) ?_
  refine Gx.val rfl rfl rfl (val_extract rfl rfl rfl) ?_
  refine Gx.val rfl rfl rfl (val_assign rfl rfl) ?_
  refine Gx.val rfl rfl rfl (val_assign rfl rfl) ?_
  refine Gx.done ?_
  refine Gx.thenN ?_
  refine Gx.seq ?_
  refine Gx.region ?_
  refine Gx.val rfl rfl rfl (val_move rfl rfl) ?_
  refine Gx.val rfl rfl rfl (val_neq rfl rfl rfl) ?_
  refine Gx.val rfl rfl rfl (val_assign rfl rfl) ?_
  refine Gx.done ?_
  refine Gx.thenN ?_
  refine Gx.ret ?_
  refine Gx.thenR ?_
  refine Gx.ret1 Try.results6 rfl ?_
  exact congrArg Value.bool (decide_eq_true hc2)

theorem rnd_out {W : World} {n : Nat} {i : Int} {nv : Value} {l : List Nd} (h : NdS W nv l) (hk : OkN (n : Int) l) (hi : isN (n : Int) i = false) :
    Calls Try.prog 6 #[.int .i64 ((n : Nat) : Int), nv, .int .i64 i] W fun e w' => e = .returned (.bool true) ∧ Below W.heap.size W w' := by
  refine calls_pure (Gx.enter (l := []) Try.func6 rfl Try.ntmps6 rfl (Sat.start W) ?_)
  refine Gx.know (m' := [(0, .int .i64 ((n : Nat) : Int)), (1, nv), (2, .int .i64 i)]) (.cons rfl (.cons rfl (.cons rfl .nil))) ?_
  refine Gx.seq ?_
  refine Gx.region ?_
  refine Gx.val rfl rfl rfl (val_assign rfl rfl) ?_
  refine Gx.done ?_
  refine Gx.thenN ?_
  refine Gx.seq ?_
  refine Gx.region ?_
  refine Gx.val rfl rfl rfl (val_move rfl rfl) ?_
  refine Gx.val rfl rfl rfl (val_move rfl rfl) ?_
  refine Gx.callB rfl rfl rfl (vs := [.int .i64 ((n : Nat) : Int), nv]) rfl Try.fn7 rfl (R := fun v w' => ∃ sv : Value, v = .tuple #[sv, .int .i64 0] ∧ SlS FN 1 w' sv (stuckN n l)) (fun w H => stuck_ok (h.below H.below) hk) ?_
  rintro _ W2 ⟨sv1, rfl, hsv1⟩ H3
  have hW4 := H3.below
  have hs5 := h.sl.below H3.below
  refine Gx.val rfl rfl rfl (val_move rfl rfl) ?_
  refine Gx.val rfl rfl rfl (val_extract rfl rfl rfl) ?_
  refine Gx.val rfl rfl rfl (val_extract rfl rfl rfl) ?_
  refine Gx.val rfl rfl rfl (val_assign rfl rfl) ?_
  refine Gx.val rfl rfl rfl (val_assign rfl rfl) ?_
  refine Gx.done ?_
  refine Gx.thenN ?_
  refine Gx.seq ?_
  refine Gx.seq ?_
  have hN2 := h.below hW4
  refine Gx.region ?_
  refine Gx.val rfl rfl rfl (val_move rfl rfl) ?_
  refine Gx.val rfl rfl rfl (val_move rfl rfl) ?_
  refine Gx.val rfl rfl rfl (val_call (vs := [.int .i64 ((n : Nat) : Int), nv]) rfl Try.fn8 rfl (fun w H => needs_yes (hN2.below H.below) hk)) ?_
  refine Gx.val rfl rfl rfl (Val.cast (val_not rfl rfl) (v' := .bool false) rfl) ?_
  refine Gx.val rfl rfl rfl (val_move rfl rfl) ?_
  refine Gx.valg rfl rfl rfl rfl rfl (val_move rfl rfl) ?_
  refine Gx.valg rfl rfl rfl rfl rfl (val_move rfl rfl) ?_
  refine Gx.effg rfl rfl rfl rfl rfl (eff_buildSlice rfl (qs := [(0, .int .i64 i)]) rfl rfl (cs := #[.int .i64 i]) (vs := [.int .i64 i]) (E := 3) rfl (fun w => by first | (go_simp; done) | (go_simp; rfl))) ?_
  rintro _ _ ⟨b6, rfl, rfl⟩
  refine Gx.part (k := 0) rfl (q := Hp.own FZ 1 (.slice (some ⟨b6, 0, none⟩) 1 1) ([i])) (own_of_rec (f := FZ) (xs := [i]) FZ_len rfl) ?_
  refine Gx.norm (l' := [Hp.own FZ 1 (.slice (some ⟨b6, 0, none⟩) 1 1) ([i])]) rfl ?_
  refine Gx.valg rfl rfl rfl rfl rfl (val_call (vs := [.int .i64 ((n : Nat) : Int), .slice (some ⟨b6, 0, none⟩) 1 1]) rfl Try.fn9 rfl (fun w H => hi ▸ inside1_any ((H.at_ (k := 0) rfl).sls (by first | omega | (simp; done) | (simp; omega))))) ?_
  refine Gx.valg rfl rfl rfl rfl rfl (Val.cast (val_not rfl rfl) (v' := .bool true) rfl) ?_
  refine Gx.val rfl rfl rfl (val_pickF rfl rfl rfl) ?_
  refine Gx.done ?_
  refine Gx.thenN ?_
  refine Gx.t rfl ?_
  refine Gx.seq ?_
  refine Gx.region ?_
  refine Gx.val rfl rfl rfl (val_move rfl rfl) ?_
  refine Gx.val rfl rfl rfl (val_move rfl rfl) ?_
  refine Gx.val rfl rfl rfl (val_move rfl rfl) ?_
  refine Gx.eff rfl rfl rfl (eff_callE (vs := [.int .i64 ((n : Nat) : Int), nv, .int .i64 i]) rfl Try.fn16 rfl (R := fun v => ∃ c : Int, v = .tuple #[.bool false, .int .i64 c] ∧ c ≠ 0) (fun w H => round_out (hN2.below H.below) hk (by unfold isN at hi; have := of_decide_eq_false hi; omega))) ?_
  rintro _ _ ⟨⟨c2, rfl, hc2⟩, rfl⟩
  refine Gx.val rfl rfl rfl (val_move rfl rfl) ?_
  refine Gx.val rfl rfl rfl (val_extract rfl rfl rfl) ?_
  refine Gx.val rfl rfl rfl (val_extract rfl rfl rfl) ?_
  refine Gx.val rfl rfl rfl (val_assign rfl rfl) ?_
  refine Gx.val rfl rfl rfl (val_assign rfl rfl) ?_
  refine Gx.done ?_
  refine Gx.thenN ?_
  refine Gx.seq ?_
  refine Gx.region ?_
  refine Gx.val rfl rfl rfl (val_move rfl rfl) ?_
  refine Gx.val rfl rfl rfl (val_neq rfl rfl rfl) ?_
  refine Gx.val rfl rfl rfl (val_assign rfl rfl) ?_
  refine Gx.done ?_
  refine Gx.thenN ?_
  refine Gx.ret ?_
  refine Gx.thenR ?_
  refine Gx.ret1B hW4 Try.results6 rfl ?_
  exact congrArg Value.bool (decide_eq_true hc2)

theorem on_put {w : List Bool} {q p : Nat} (h : q < w.length) : onF (w.set q true) p ↔ p = q ∨ onF w p := by
  unfold onF; rw [getD_setB]
  by_cases e : q = p
  · subst e; simp [h]
  · have : ¬ p = q := fun z => e z.symm
    simp [e, this]
theorem or3 {fb r t : Bool} {P Q R T : Prop} (h : fb = true ↔ P ∨ Q) (hr : R ↔ r = true) (ht : T ↔ t = true) : (fb || (r && !t)) = true ↔ P ∨ Q ∨ (R ∧ ¬ T) := by
  rw [hr, ht, Bool.or_eq_true, h, Bool.and_eq_true, Bool.not_eq_true', ← Bool.not_eq_true]
  exact ⟨fun q => q.elim (fun q => q.elim .inl (fun q => .inr (.inl q))) (fun q => .inr (.inr q)), fun q => q.elim (fun q => .inl (.inl q)) (fun q => q.elim (fun q => .inl (.inr q)) .inr)⟩
theorem any_in {W : World} {n i : Nat} {nv : Value} {l : List Nd} (h : NdS W nv l) (hk : OkN (n : Int) l) (hi : i < n) :
    Calls Try.prog 4 #[.int .i64 ((n : Nat) : Int), nv, .int .i64 ((i : Nat) : Int)] W fun e w' => e = .returned (.bool true) ∧ Below W.heap.size W w' := by
  have hn12 := hk.n12
  have m1 := sls_bd h.sl
  have hnn : n * n ≤ 12 * 12 := Nat.mul_le_mul (by omega) (by omega)
  have hin : i * n + n ≤ n * n := by rw [← Nat.succ_mul]; exact Nat.mul_le_mul_right n hi
  refine calls_pure (Gx.enter (l := []) Try.func4 rfl Try.ntmps4 rfl (Sat.start W) ?_)
  refine Gx.know (m' := [(0, .int .i64 ((n : Nat) : Int)), (1, nv), (2, .int .i64 ((i : Nat) : Int))]) (.cons rfl (.cons rfl (.cons rfl .nil))) ?_
  refine Gx.seq ?_
  refine Gx.region ?_
  refine Gx.val rfl rfl rfl (val_assign rfl rfl) ?_
  refine Gx.done ?_
  refine Gx.thenN ?_
  refine Gx.seq ?_
  refine Gx.region ?_
  refine Gx.val rfl rfl rfl (val_move rfl rfl) ?_
  refine Gx.val rfl rfl rfl (val_move rfl rfl) ?_
  refine Gx.callB rfl rfl rfl (vs := [.int .i64 ((n : Nat) : Int), nv]) rfl Try.fn7 rfl (R := fun v w' => ∃ sv : Value, v = .tuple #[sv, .int .i64 0] ∧ SlS FN 1 w' sv (stuckN n l)) (fun w H => stuck_ok (h.below H.below) hk) ?_
  rintro _ W2 ⟨sv1, rfl, hsv1⟩ H3
  have hW4 := H3.below
  have hs5 := h.sl.below H3.below
  refine Gx.val rfl rfl rfl (val_move rfl rfl) ?_
  refine Gx.val rfl rfl rfl (val_extract rfl rfl rfl) ?_
  refine Gx.val rfl rfl rfl (val_extract rfl rfl rfl) ?_
  refine Gx.val rfl rfl rfl (val_assign rfl rfl) ?_
  refine Gx.val rfl rfl rfl (val_assign rfl rfl) ?_
  refine Gx.done ?_
  refine Gx.thenN ?_
  refine Gx.seq ?_
  refine Gx.seq ?_
  have hN2 := h.below hW4
  have hle := stkU_le (freeN n l) n
  have hsn : (stuckN n l).length ≤ 12 := by unfold stuckN; omega
  refine Gx.region ?_
  refine Gx.val rfl rfl rfl (val_move rfl rfl) ?_
  refine Gx.val rfl rfl rfl (val_move rfl rfl) ?_
  refine Gx.val rfl rfl rfl (val_call (vs := [.int .i64 ((n : Nat) : Int), nv]) rfl Try.fn8 rfl (fun w H => needs_yes (hN2.below H.below) hk)) ?_
  refine Gx.val rfl rfl rfl (Val.cast (val_not rfl rfl) (v' := .bool false) rfl) ?_
  refine Gx.val rfl rfl rfl (val_move rfl rfl) ?_
  refine Gx.valg rfl rfl rfl rfl rfl (val_move rfl rfl) ?_
  refine Gx.valg rfl rfl rfl rfl rfl (val_move rfl rfl) ?_
  refine Gx.effg rfl rfl rfl rfl rfl (eff_buildSlice rfl (qs := [(0, .int .i64 ((i : Nat) : Int))]) rfl rfl (cs := #[.int .i64 ((i : Nat) : Int)]) (vs := [.int .i64 ((i : Nat) : Int)]) (E := 3) rfl (fun w => by first | (go_simp; done) | (go_simp; rfl))) ?_
  rintro _ _ ⟨b6, rfl, rfl⟩
  refine Gx.part (k := 0) rfl (q := Hp.own FZ 1 (.slice (some ⟨b6, 0, none⟩) 1 1) ([((i : Nat) : Int)])) (own_of_rec (f := FZ) (xs := [((i : Nat) : Int)]) FZ_len rfl) ?_
  refine Gx.norm (l' := [Hp.own FZ 1 (.slice (some ⟨b6, 0, none⟩) 1 1) ([((i : Nat) : Int)])]) rfl ?_
  refine Gx.valg rfl rfl rfl rfl rfl (val_call (vs := [.int .i64 ((n : Nat) : Int), .slice (some ⟨b6, 0, none⟩) 1 1]) rfl Try.fn9 rfl (fun w H => (show isN (n : Int) ((i : Nat) : Int) = true from isN_iff.2 (by omega)) ▸ inside1_any ((H.at_ (k := 0) rfl).sls (by first | omega | (simp; done) | (simp; omega))))) ?_
  refine Gx.valg rfl rfl rfl rfl rfl (Val.cast (val_not rfl rfl) (v' := .bool false) rfl) ?_
  refine Gx.val rfl rfl rfl (val_pickF rfl rfl rfl) ?_
  refine Gx.done ?_
  refine Gx.thenN ?_
  refine Gx.f rfl ?_
  refine Gx.skip ?_
  refine Gx.thenN ?_
  refine Gx.seq ?_
  refine Gx.region ?_
  refine Gx.val rfl rfl rfl (val_move rfl rfl) ?_
  refine Gx.eff rfl rfl rfl (eff_makeSlice (n := n) (f := FB) rfl Try.underlying36 Try.ty4 rfl rfl (rfl) (rfl) FB_len false rfl (by omega) (by omega)) ?_
  rintro v7 _ ⟨hiv7, rfl⟩
  refine Gx.val rfl rfl rfl (val_assign rfl rfl) ?_
  refine Gx.done ?_
  refine Gx.thenN ?_
  refine Gx.seq ?_
  refine Gx.seq ?_
  refine Gx.region ?_
  refine Gx.val rfl rfl rfl (val_move rfl rfl) ?_
  refine Gx.val rfl rfl rfl (val_len rfl Try.underlying22 rfl (len_base hs5)) ?_
  refine Gx.val rfl rfl rfl (val_move rfl rfl) ?_
  refine Gx.done ?_
  refine Gx.thenN ?_
  refine Gx.block ?_
  refine Gx.drop 1 rfl ?_
  refine Gx.loop (ι := Nat × (List Bool)) (fun ξ => (ξ.1 ≤ l.length) ∧ (ξ.2.length = n) ∧ (∀ p, onF ξ.2 p ↔ ∃ x ∈ l.take ξ.1, x.who.toNat = p) ∧ (∀ x ∈ l.take ξ.1, x.all = false)) (fun ξ => [(0, .int .i64 ((n : Nat) : Int)), (1, nv), (2, .int .i64 ((i : Nat) : Int)), (7, sv1), (8, .int .i64 0), (9, v7), (34, nv), (35, .int .i64 ((l.length : Nat) : Int)), (36, .int .i64 ((ξ.1 : Nat) : Int))]) (fun ξ => [Hp.own FB 1 v7 ξ.2]) (fun ξ => l.length - ξ.1) (0, (List.replicate n false)) ⟨by first | omega | (dsimp only; omega), by simp, fun p => by simp [onF, List.getD_eq_getElem?_getD, List.getElem?_replicate]; split <;> simp, fun x hx => by simp at hx⟩ ((.cons rfl (.cons rfl (.cons rfl (.cons rfl (.cons rfl (.cons rfl (.cons rfl (.cons rfl (.cons rfl .nil)))))))))) rfl ?_
  rintro ⟨a, ww⟩ ⟨ha, hwl, hww, hal⟩
  dsimp only at ha hwl hww hal
  refine Gx.know (m' := [(0, .int .i64 ((n : Nat) : Int)), (1, nv), (2, .int .i64 ((i : Nat) : Int)), (7, sv1), (8, .int .i64 0), (9, v7), (34, nv), (35, .int .i64 ((l.length : Nat) : Int)), (36, .int .i64 ((a : Nat) : Int))]) (.cons rfl (.cons rfl (.cons rfl (.cons rfl (.cons rfl (.cons rfl (.cons rfl (.cons rfl (.cons rfl .nil))))))))) (Gx.norm (l' := [Hp.own FB 1 v7 ww]) rfl ?_)
  refine Gx.seq ?_
  refine Gx.region ?_
  refine Gx.val rfl rfl rfl (val_lss rfl rfl rfl) ?_
  refine Gx.done ?_
  refine Gx.thenN ?_
  refine Gx.seq ?_
  refine Gx.dec rfl (fun h8 => ?_) (fun h8 => ?_)
  · refine Gx.skip ?_
    refine Gx.thenN ?_
    refine Gx.seq ?_
    refine Gx.block ?_
    refine Gx.seq ?_
    refine Gx.region ?_
    obtain ⟨x9, hx9⟩ := get_of_lt (xs := l) (k := a) (by omega)
    refine Gx.val rfl rfl rfl (val_ixa rfl Try.underlying22 Try.ty38 rfl rfl (j := a) (rfl) (reach_base hs5 hx9)) ?_
    refine Gx.val rfl rfl rfl (Val.cast (val_loadA rfl Try.ty38 rfl rfl rfl (cells_base hs5 hx9)) (v' := .agg #[.int .i64 x9.who, .bool x9.all, .slice x9.a x9.n x9.c]) rfl) ?_
    refine Gx.eff rfl rfl rfl (eff_alloc rfl Try.ty38 (vs := [.int .i64 0, .bool false, .slice none 0 0]) rfl) ?_
    rintro _ _ ⟨b10, rfl, rfl⟩
    refine Gx.eff0 rfl rfl (eff_store rfl Try.ty38 rfl rfl (us := [.int .i64 x9.who, .bool x9.all, .slice x9.a x9.n x9.c]) rfl rfl rfl (k := 0) rfl (rfl) (vs' := [.int .i64 x9.who, .bool x9.all, .slice x9.a x9.n x9.c]) (rfl) (l' := [Hp.rec_ b10 [.int .i64 x9.who, .bool x9.all, .slice x9.a x9.n x9.c], Hp.own FB 1 v7 ww]) rfl) ?_
    rintro _ _ rfl
    refine Gx.done ?_
    refine Gx.thenN ?_
    refine Gx.seq ?_
    refine Gx.seq ?_
    refine Gx.region ?_
    refine Gx.val rfl rfl rfl (Val.cast (val_fieldAddr rfl Try.underlying38 rfl Try.ty4 rfl rfl) (v' := ptr b10 1) rfl) ?_
    refine Gx.val rfl rfl rfl (val_load rfl Try.ty4 rfl rfl (cell_rec (k := 0) rfl rfl)) ?_
    refine Gx.done ?_
    refine Gx.thenN ?_
    refine Gx.bool rfl (fun h11 => ?_) (fun h11 => ?_)
    · refine Gx.seq ?_
      refine Gx.region ?_
      refine Gx.val rfl rfl rfl (val_assign rfl rfl) ?_
      refine Gx.done ?_
      refine Gx.thenN ?_
      refine Gx.ret ?_
      refine Gx.thenR ?_
      refine Gx.blkR ?_
      refine Gx.thenR ?_
      refine Gx.thenR ?_
      refine Gx.blkR ?_
      refine Gx.thenR ?_
      refine Gx.ret1B hW4 Try.results4 rfl ?_
      rfl
    · refine Gx.skip ?_
      refine Gx.thenN ?_
      have hxk := hk.el x9 (List.mem_of_getElem? hx9)
      have hx0 := hxk.w0
      have hx1 := hxk.w1
      refine Gx.region ?_
      refine Gx.val rfl rfl rfl (val_move rfl rfl) ?_
      refine Gx.val rfl rfl rfl (Val.cast (val_fieldAddr rfl Try.underlying38 rfl Try.ty3 rfl rfl) (v' := ptr b10 0) rfl) ?_
      refine Gx.val rfl rfl rfl (val_load rfl Try.ty3 rfl rfl (cell_rec (k := 0) rfl rfl)) ?_
      obtain ⟨x12, hx12⟩ := get_of_lt (xs := ww) (k := x9.who.toNat) (by omega)
      refine Gx.val rfl rfl rfl (val_ixa rfl Try.underlying36 Try.ty4 rfl rfl (j := x9.who.toNat) (by omega) (reach_own (k := 1) rfl hx12)) ?_
      refine Gx.eff0 rfl rfl (eff_storeElA true rfl Try.ty4 rfl rfl rfl FB_one (k := 1) rfl FB_len hx12 (l' := [Hp.rec_ b10 [.int .i64 x9.who, .bool x9.all, .slice x9.a x9.n x9.c], Hp.own FB 1 v7 (ww.set x9.who.toNat true)]) rfl) ?_
      rintro _ _ rfl
      refine Gx.done ?_
      refine Gx.blkN ?_
      refine Gx.thenN ?_
      refine Gx.region ?_
      refine Gx.val rfl rfl rfl (val_add rfl rfl rfl (r := ((a + 1 : Nat) : Int)) (w64 (by omega) (by omega))) ?_
      refine Gx.val rfl rfl rfl (val_move rfl rfl) ?_
      refine Gx.done ?_
      refine Gx.thenN ?_
      refine Gx.drop 0 rfl ?_
      exact Gx.round (a + 1, ww.set x9.who.toNat true) ⟨by first | omega | (dsimp only; omega), by dsimp only; rw [List.length_set]; exact hwl, fun p => by
          dsimp only; rw [on_put (by omega), hww p]
          constructor
          · rintro (e | ⟨y, hy, e⟩)
            · exact ⟨x9, (mem_take_succ hx9).2 (.inr rfl), e.symm⟩
            · exact ⟨y, (mem_take_succ hx9).2 (.inl hy), e⟩
          · rintro ⟨y, hy, e⟩
            rcases (mem_take_succ hx9).1 hy with q | hyx
            · exact .inr ⟨y, q, e⟩
            · rw [hyx] at e; exact .inl e.symm, fun y hy => by
          rcases (mem_take_succ hx9).1 hy with q | hyx
          · exact hal y q
          · rw [hyx]; exact h11⟩ (by first | omega | (dsimp only; omega)) ((.cons rfl (.cons rfl (.cons rfl (.cons rfl (.cons rfl (.cons rfl (.cons rfl (.cons rfl (.cons rfl .nil)))))))))) rfl
  · refine Gx.exit ?_
    refine Gx.thenE ?_
    refine Gx.thenE ?_
    refine Gx.blkE ?_
    refine Gx.thenN ?_
    refine Gx.seq ?_
    obtain rfl : a = l.length := by omega
    rw [List.take_length] at hww hal
    have hwt : ∀ p, onF ww p ↔ Wt l p := hww
    refine Gx.region ?_
    refine Gx.val rfl rfl rfl (val_move rfl rfl) ?_
    refine Gx.val rfl rfl rfl (val_move rfl rfl) ?_
    refine Gx.eff rfl rfl rfl (eff_callN (vs := [.int .i64 ((n : Nat) : Int), nv]) rfl Try.fn15 rfl (fun w H => waits_own (hN2.below H.below) hk)) ?_
    rintro wv _ ⟨_, ⟨hiwv, w, rfl, hwr⟩, rfl⟩
    refine Gx.norm (l' := [Hp.own FB 1 wv w, Hp.own FB 1 v7 ww]) rfl ?_
    refine Gx.val rfl rfl rfl (val_assign rfl rfl) ?_
    refine Gx.done ?_
    refine Gx.thenN ?_
    refine Gx.seq ?_
    have hwrl := hwr.len
    refine Gx.region ?_
    refine Gx.val rfl rfl rfl (val_move rfl rfl) ?_
    refine Gx.val rfl rfl rfl (val_move rfl rfl) ?_
    obtain ⟨x13, hx13⟩ := get_of_lt (xs := ww) (k := i) (by omega)
    refine Gx.val rfl rfl rfl (val_ixa rfl Try.underlying36 Try.ty4 rfl rfl (j := i) (rfl) (reach_own (k := 1) rfl hx13)) ?_
    refine Gx.val rfl rfl rfl (val_load rfl Try.ty4 rfl rfl (cell_own (i := 0) (k := 1) rfl hx13 rfl)) ?_
    refine Gx.val rfl rfl rfl (val_not rfl rfl) ?_
    refine Gx.val rfl rfl rfl (val_assign rfl rfl) ?_
    refine Gx.done ?_
    refine Gx.thenN ?_
    refine Gx.seq ?_
    refine Gx.seq ?_
    refine Gx.region ?_
    refine Gx.val rfl rfl rfl (val_assign rfl rfl) ?_
    refine Gx.done ?_
    refine Gx.thenN ?_
    refine Gx.block ?_
    refine Gx.loop (ι := Nat × Bool) (fun ξ => (ξ.1 ≤ n) ∧ (ξ.2 = true ↔ ¬ Wt l i ∨ ∃ q, q < ξ.1 ∧ Rch l i q ∧ ¬ Wt l q)) (fun ξ => [(0, .int .i64 ((n : Nat) : Int)), (2, .int .i64 ((i : Nat) : Int)), (7, sv1), (8, .int .i64 0), (9, v7), (12, wv), (13, .bool ξ.2), (14, .int .i64 ((ξ.1 : Nat) : Int))]) (fun ξ => [Hp.own FB 1 wv w, Hp.own FB 1 v7 ww]) (fun ξ => n - ξ.1) (0, !x13) ⟨by first | omega | (dsimp only; omega), by
        rw [← hwt i, on_of hx13]; simp⟩ ((.cons rfl (.cons rfl (.cons rfl (.cons rfl (.cons rfl (.cons rfl (.cons rfl (.cons rfl .nil))))))))) rfl ?_
    rintro ⟨j, fb⟩ ⟨hj, hfb⟩
    dsimp only at hj hfb
    refine Gx.know (m' := [(0, .int .i64 ((n : Nat) : Int)), (2, .int .i64 ((i : Nat) : Int)), (7, sv1), (8, .int .i64 0), (9, v7), (12, wv), (13, .bool fb), (14, .int .i64 ((j : Nat) : Int))]) (.cons rfl (.cons rfl (.cons rfl (.cons rfl (.cons rfl (.cons rfl (.cons rfl (.cons rfl .nil)))))))) (Gx.norm (l' := [Hp.own FB 1 wv w, Hp.own FB 1 v7 ww]) rfl ?_)
    refine Gx.seq ?_
    refine Gx.seq ?_
    refine Gx.region ?_
    refine Gx.val rfl rfl rfl (val_move rfl rfl) ?_
    refine Gx.val rfl rfl rfl (val_move rfl rfl) ?_
    refine Gx.val rfl rfl rfl (val_lss rfl rfl rfl) ?_
    refine Gx.done ?_
    refine Gx.thenN ?_
    refine Gx.dec rfl (fun h14 => ?_) (fun h14 => ?_)
    · refine Gx.skip ?_
      refine Gx.thenN ?_
      refine Gx.seq ?_
      refine Gx.block ?_
      refine Gx.region ?_
      refine Gx.val rfl rfl rfl (val_move rfl rfl) ?_
      refine Gx.val rfl rfl rfl (val_move rfl rfl) ?_
      refine Gx.casesB (t := 61) rfl (fun h15 => ?_) (fun h15 => ?_)
      · refine Gx.skipg rfl rfl rfl rfl rfl rfl ?_
        refine Gx.skipg rfl rfl rfl rfl rfl rfl ?_
        refine Gx.skipg rfl rfl rfl rfl rfl rfl ?_
        refine Gx.skipg rfl rfl rfl rfl rfl rfl ?_
        refine Gx.skipg rfl rfl rfl rfl rfl rfl ?_
        refine Gx.skipg rfl rfl rfl rfl rfl rfl ?_
        refine Gx.skipg rfl rfl rfl rfl rfl rfl ?_
        refine Gx.skipg rfl rfl rfl rfl rfl rfl ?_
        refine Gx.skipg rfl rfl rfl rfl rfl rfl ?_
        refine Gx.skipu rfl rfl rfl rfl rfl ?_
        refine Gx.skipu rfl rfl rfl rfl rfl ?_
        refine Gx.skipu rfl rfl rfl rfl rfl ?_
        refine Gx.skipu rfl rfl rfl rfl rfl ?_
        refine Gx.skipu rfl rfl rfl rfl rfl ?_
        refine Gx.skipg rfl rfl rfl rfl rfl rfl ?_
        refine Gx.val rfl rfl rfl (val_pickT rfl rfl rfl) ?_
        refine Gx.val rfl rfl rfl (val_assign rfl rfl) ?_
        refine Gx.done ?_
        refine Gx.blkN ?_
        refine Gx.thenN ?_
        refine Gx.region ?_
        refine Gx.val rfl rfl rfl (val_move rfl rfl) ?_
        refine Gx.val rfl rfl rfl (val_add rfl rfl rfl (r := ((j + 1 : Nat) : Int)) (w64 (by omega) (by omega))) ?_
        refine Gx.val rfl rfl rfl (val_assign rfl rfl) ?_
        refine Gx.done ?_
        refine Gx.thenN ?_
        have hsp : (∃ q, q < j + 1 ∧ Rch l i q ∧ ¬ Wt l q) ↔ (∃ q, q < j ∧ Rch l i q ∧ ¬ Wt l q) ∨ (Rch l i j ∧ ¬ Wt l j) := by
          constructor
          · rintro ⟨q, h1, h2⟩
            rcases Nat.lt_or_eq_of_le (Nat.le_of_lt_succ h1) with z | rfl
            · exact .inl ⟨q, z, h2⟩
            · exact .inr h2
          · rintro (⟨q, h1, h2⟩ | h2)
            · exact ⟨q, by omega, h2⟩
            · exact ⟨j, by omega, h2⟩
        obtain ⟨xa9, hxa9⟩ := get_of_lt (xs := w) (k := i * n + j) (by omega)
        obtain ⟨xb9, hxb9⟩ := get_of_lt (xs := ww) (k := j) (by omega)
        have hra : Rch l i j ↔ xa9 = true := by rw [← hwr.on i j hi (by omega), on_of hxa9]
        have hrb : Wt l j ↔ xb9 = true := by rw [← hwt j, on_of hxb9]
        exact Gx.round (j + 1, true) ⟨by first | omega | (dsimp only; omega), by dsimp only; rw [hsp]; exact Iff.trans (Bool.eq_iff_iff.1 (show (true : Bool) = (fb || (xa9 && !xb9)) from by simp [h15])) (or3 hfb hra hrb)⟩ (by first | omega | (dsimp only; omega)) ((.cons rfl (.cons rfl (.cons rfl (.cons rfl (.cons rfl (.cons rfl (.cons rfl (.cons rfl .nil))))))))) rfl
      · refine Gx.valg rfl rfl rfl rfl rfl (val_move rfl rfl) ?_
        refine Gx.valg rfl rfl rfl rfl rfl (val_move rfl rfl) ?_
        refine Gx.valg rfl rfl rfl rfl rfl (val_move rfl rfl) ?_
        refine Gx.valg rfl rfl rfl rfl rfl (val_mul rfl rfl rfl (r := ((i * n : Nat) : Int)) (w64 (by rw [Int.natCast_mul]) (by omega))) ?_
        refine Gx.valg rfl rfl rfl rfl rfl (val_move rfl rfl) ?_
        refine Gx.valg rfl rfl rfl rfl rfl (val_add rfl rfl rfl (r := ((i * n + j : Nat) : Int)) (w64 (by omega) (by omega))) ?_
        obtain ⟨x16, hx16⟩ := get_of_lt (xs := w) (k := i * n + j) (by omega)
        refine Gx.valg rfl rfl rfl rfl rfl (val_ixa rfl Try.underlying36 Try.ty4 rfl rfl (j := i * n + j) (rfl) (reach_own (k := 0) rfl hx16)) ?_
        refine Gx.valg rfl rfl rfl rfl rfl (val_load rfl Try.ty4 rfl rfl (cell_own (i := 0) (sz := 1) (j := i * n + j) (k := 0) rfl hx16 rfl)) ?_
        refine Gx.valg rfl rfl rfl rfl rfl (val_move rfl rfl) ?_
        refine Gx.casesB (t := 70) rfl (fun h17 => ?_) (fun h17 => ?_)
        · refine Gx.valg rfl rfl rfl rfl rfl (val_move rfl rfl) ?_
          refine Gx.valg rfl rfl rfl rfl rfl (val_move rfl rfl) ?_
          obtain ⟨x18, hx18⟩ := get_of_lt (xs := ww) (k := j) (by omega)
          refine Gx.valg rfl rfl rfl rfl rfl (val_ixa rfl Try.underlying36 Try.ty4 rfl rfl (j := j) (rfl) (reach_own (k := 1) rfl hx18)) ?_
          refine Gx.valg rfl rfl rfl rfl rfl (val_load rfl Try.ty4 rfl rfl (cell_own (i := 0) (k := 1) rfl hx18 rfl)) ?_
          refine Gx.valg rfl rfl rfl rfl rfl (val_not rfl rfl) ?_
          refine Gx.valg rfl rfl rfl rfl rfl (val_pickT rfl rfl rfl) ?_
          refine Gx.val rfl rfl rfl (val_pickF rfl rfl rfl) ?_
          refine Gx.val rfl rfl rfl (val_assign rfl rfl) ?_
          refine Gx.done ?_
          refine Gx.blkN ?_
          refine Gx.thenN ?_
          refine Gx.region ?_
          refine Gx.val rfl rfl rfl (val_move rfl rfl) ?_
          refine Gx.val rfl rfl rfl (val_add rfl rfl rfl (r := ((j + 1 : Nat) : Int)) (w64 (by omega) (by omega))) ?_
          refine Gx.val rfl rfl rfl (val_assign rfl rfl) ?_
          refine Gx.done ?_
          refine Gx.thenN ?_
          have hsp : (∃ q, q < j + 1 ∧ Rch l i q ∧ ¬ Wt l q) ↔ (∃ q, q < j ∧ Rch l i q ∧ ¬ Wt l q) ∨ (Rch l i j ∧ ¬ Wt l j) := by
            constructor
            · rintro ⟨q, h1, h2⟩
              rcases Nat.lt_or_eq_of_le (Nat.le_of_lt_succ h1) with z | rfl
              · exact .inl ⟨q, z, h2⟩
              · exact .inr h2
            · rintro (⟨q, h1, h2⟩ | h2)
              · exact ⟨q, by omega, h2⟩
              · exact ⟨j, by omega, h2⟩
          have hra : Rch l i j ↔ x16 = true := by rw [← hwr.on i j hi (by omega), on_of hx16]
          have hrb : Wt l j ↔ x18 = true := by rw [← hwt j, on_of hx18]
          exact Gx.round (j + 1, !x18) ⟨by first | omega | (dsimp only; omega), by dsimp only; rw [hsp]; exact Iff.trans (Bool.eq_iff_iff.1 (show (!x18 : Bool) = (fb || (x16 && !x18)) from by simp [h15, h17])) (or3 hfb hra hrb)⟩ (by first | omega | (dsimp only; omega)) ((.cons rfl (.cons rfl (.cons rfl (.cons rfl (.cons rfl (.cons rfl (.cons rfl (.cons rfl .nil))))))))) rfl
        · refine Gx.skipg rfl rfl rfl rfl rfl rfl ?_
          refine Gx.skipg rfl rfl rfl rfl rfl rfl ?_
          refine Gx.skipg rfl rfl rfl rfl rfl rfl ?_
          refine Gx.skipg rfl rfl rfl rfl rfl rfl ?_
          refine Gx.skipg rfl rfl rfl rfl rfl rfl ?_
          refine Gx.valg rfl rfl rfl rfl rfl (val_pickF rfl rfl rfl) ?_
          refine Gx.val rfl rfl rfl (val_pickF rfl rfl rfl) ?_
          refine Gx.val rfl rfl rfl (val_assign rfl rfl) ?_
          refine Gx.done ?_
          refine Gx.blkN ?_
          refine Gx.thenN ?_
          refine Gx.region ?_
          refine Gx.val rfl rfl rfl (val_move rfl rfl) ?_
          refine Gx.val rfl rfl rfl (val_add rfl rfl rfl (r := ((j + 1 : Nat) : Int)) (w64 (by omega) (by omega))) ?_
          refine Gx.val rfl rfl rfl (val_assign rfl rfl) ?_
          refine Gx.done ?_
          refine Gx.thenN ?_
          have hsp : (∃ q, q < j + 1 ∧ Rch l i q ∧ ¬ Wt l q) ↔ (∃ q, q < j ∧ Rch l i q ∧ ¬ Wt l q) ∨ (Rch l i j ∧ ¬ Wt l j) := by
            constructor
            · rintro ⟨q, h1, h2⟩
              rcases Nat.lt_or_eq_of_le (Nat.le_of_lt_succ h1) with z | rfl
              · exact .inl ⟨q, z, h2⟩
              · exact .inr h2
            · rintro (⟨q, h1, h2⟩ | h2)
              · exact ⟨q, by omega, h2⟩
              · exact ⟨j, by omega, h2⟩
          obtain ⟨xb9, hxb9⟩ := get_of_lt (xs := ww) (k := j) (by omega)
          have hra : Rch l i j ↔ x16 = true := by rw [← hwr.on i j hi (by omega), on_of hx16]
          have hrb : Wt l j ↔ xb9 = true := by rw [← hwt j, on_of hxb9]
          exact Gx.round (j + 1, false) ⟨by first | omega | (dsimp only; omega), by dsimp only; rw [hsp]; exact Iff.trans (Bool.eq_iff_iff.1 (show (false : Bool) = (fb || (x16 && !xb9)) from by simp [h15, h17])) (or3 hfb hra hrb)⟩ (by first | omega | (dsimp only; omega)) ((.cons rfl (.cons rfl (.cons rfl (.cons rfl (.cons rfl (.cons rfl (.cons rfl (.cons rfl .nil))))))))) rfl
    · refine Gx.exit ?_
      refine Gx.thenE ?_
      refine Gx.thenE ?_
      refine Gx.blkE ?_
      refine Gx.thenN ?_
      refine Gx.seq ?_
      obtain rfl : j = n := by omega
      have hff : fb = true ↔ posI (stuckN j l) i < 0 := by
        rw [hfb, ← any_free hk hal hi]
        constructor
        · intro h1; exact Int.not_le.1 fun h2 => (stuck_mem.1 (posI_ge.1 h2)).2 h1
        · intro h1; exact Classical.byContradiction fun h2 => absurd (posI_ge.2 (stuck_mem.2 ⟨hi, h2⟩)) (Int.not_le.2 h1)
      refine Gx.region ?_
      refine Gx.val rfl rfl rfl (val_move rfl rfl) ?_
      refine Gx.val rfl rfl rfl (Val.cast (val_eql rfl rfl rfl) (v' := .bool true) rfl) ?_
      refine Gx.val rfl rfl rfl (val_move rfl rfl) ?_
      refine Gx.valg rfl rfl rfl rfl rfl (val_move rfl rfl) ?_
      refine Gx.valg rfl rfl rfl rfl rfl (val_move rfl rfl) ?_
      refine Gx.valg rfl rfl rfl rfl rfl (val_move rfl rfl) ?_
      refine Gx.valg rfl rfl rfl rfl rfl (val_call (vs := [sv1, .int .i64 ((i : Nat) : Int)]) rfl Try.fn14 rfl (fun w H => pos_any (hsv1.below H.below))) ?_
      refine Gx.valg rfl rfl rfl rfl rfl (val_lss rfl rfl rfl) ?_
      refine Gx.valg rfl rfl rfl rfl rfl (val_eqlB Try.underlying4 rfl rfl rfl) ?_
      refine Gx.val rfl rfl rfl (val_pickT rfl rfl rfl) ?_
      refine Gx.val rfl rfl rfl (val_assign rfl rfl) ?_
      refine Gx.done ?_
      refine Gx.thenN ?_
      refine Gx.ret ?_
      refine Gx.ret1B hW4 Try.results4 rfl ?_
      exact congrArg Value.bool (by cases fb <;> simp_all)

theorem rnd_in {W : World} {n i : Nat} {nv : Value} {l : List Nd} (h : NdS W nv l) (hk : OkN (n : Int) l) (hi : i < n) :
    Calls Try.prog 6 #[.int .i64 ((n : Nat) : Int), nv, .int .i64 ((i : Nat) : Int)] W fun e w' => e = .returned (.bool true) ∧ Below W.heap.size W w' := by
  have hn12 := hk.n12
  have m1 := sls_bd h.sl
  have hnn : n * n ≤ 12 * 12 := Nat.mul_le_mul (by omega) (by omega)
  have hin : i * n + n ≤ n * n := by rw [← Nat.succ_mul]; exact Nat.mul_le_mul_right n hi
  refine calls_pure (Gx.enter (l := []) Try.func6 rfl Try.ntmps6 rfl (Sat.start W) ?_)
  refine Gx.know (m' := [(0, .int .i64 ((n : Nat) : Int)), (1, nv), (2, .int .i64 ((i : Nat) : Int))]) (.cons rfl (.cons rfl (.cons rfl .nil))) ?_
  refine Gx.seq ?_
  refine Gx.region ?_
  refine Gx.val rfl rfl rfl (val_assign rfl rfl) ?_
  refine Gx.done ?_
  refine Gx.thenN ?_
  refine Gx.seq ?_
  refine Gx.region ?_
  refine Gx.val rfl rfl rfl (val_move rfl rfl) ?_
  refine Gx.val rfl rfl rfl (val_move rfl rfl) ?_
  refine Gx.callB rfl rfl rfl (vs := [.int .i64 ((n : Nat) : Int), nv]) rfl Try.fn7 rfl (R := fun v w' => ∃ sv : Value, v = .tuple #[sv, .int .i64 0] ∧ SlS FN 1 w' sv (stuckN n l)) (fun w H => stuck_ok (h.below H.below) hk) ?_
  rintro _ W2 ⟨sv1, rfl, hsv1⟩ H3
  have hW4 := H3.below
  have hs5 := h.sl.below H3.below
  refine Gx.val rfl rfl rfl (val_move rfl rfl) ?_
  refine Gx.val rfl rfl rfl (val_extract rfl rfl rfl) ?_
  refine Gx.val rfl rfl rfl (val_extract rfl rfl rfl) ?_
  refine Gx.val rfl rfl rfl (val_assign rfl rfl) ?_
  refine Gx.val rfl rfl rfl (val_assign rfl rfl) ?_
  refine Gx.done ?_
  refine Gx.thenN ?_
  refine Gx.seq ?_
  refine Gx.seq ?_
  have hN2 := h.below hW4
  have hle := stkU_le (freeN n l) n
  have hsn : (stuckN n l).length ≤ 12 := by unfold stuckN; omega
  refine Gx.region ?_
  refine Gx.val rfl rfl rfl (val_move rfl rfl) ?_
  refine Gx.val rfl rfl rfl (val_move rfl rfl) ?_
  refine Gx.val rfl rfl rfl (val_call (vs := [.int .i64 ((n : Nat) : Int), nv]) rfl Try.fn8 rfl (fun w H => needs_yes (hN2.below H.below) hk)) ?_
  refine Gx.val rfl rfl rfl (Val.cast (val_not rfl rfl) (v' := .bool false) rfl) ?_
  refine Gx.val rfl rfl rfl (val_move rfl rfl) ?_
  refine Gx.valg rfl rfl rfl rfl rfl (val_move rfl rfl) ?_
  refine Gx.valg rfl rfl rfl rfl rfl (val_move rfl rfl) ?_
  refine Gx.effg rfl rfl rfl rfl rfl (eff_buildSlice rfl (qs := [(0, .int .i64 ((i : Nat) : Int))]) rfl rfl (cs := #[.int .i64 ((i : Nat) : Int)]) (vs := [.int .i64 ((i : Nat) : Int)]) (E := 3) rfl (fun w => by first | (go_simp; done) | (go_simp; rfl))) ?_
  rintro _ _ ⟨b6, rfl, rfl⟩
  refine Gx.part (k := 0) rfl (q := Hp.own FZ 1 (.slice (some ⟨b6, 0, none⟩) 1 1) ([((i : Nat) : Int)])) (own_of_rec (f := FZ) (xs := [((i : Nat) : Int)]) FZ_len rfl) ?_
  refine Gx.norm (l' := [Hp.own FZ 1 (.slice (some ⟨b6, 0, none⟩) 1 1) ([((i : Nat) : Int)])]) rfl ?_
  refine Gx.valg rfl rfl rfl rfl rfl (val_call (vs := [.int .i64 ((n : Nat) : Int), .slice (some ⟨b6, 0, none⟩) 1 1]) rfl Try.fn9 rfl (fun w H => (show isN (n : Int) ((i : Nat) : Int) = true from isN_iff.2 (by omega)) ▸ inside1_any ((H.at_ (k := 0) rfl).sls (by first | omega | (simp; done) | (simp; omega))))) ?_
  refine Gx.valg rfl rfl rfl rfl rfl (Val.cast (val_not rfl rfl) (v' := .bool false) rfl) ?_
  refine Gx.val rfl rfl rfl (val_pickF rfl rfl rfl) ?_
  refine Gx.done ?_
  refine Gx.thenN ?_
  refine Gx.f rfl ?_
  refine Gx.skip ?_
  refine Gx.thenN ?_
  refine Gx.seq ?_
  refine Gx.seq ?_
  refine Gx.region ?_
  refine Gx.val rfl rfl rfl (val_move rfl rfl) ?_
  refine Gx.val rfl rfl rfl (val_len rfl Try.underlying22 rfl (len_base hs5)) ?_
  refine Gx.val rfl rfl rfl (val_move rfl rfl) ?_
  refine Gx.done ?_
  refine Gx.thenN ?_
  refine Gx.block ?_
  refine Gx.drop 0 rfl ?_
  refine Gx.loop (ι := Nat) (fun ξ => (ξ ≤ l.length) ∧ (∀ x ∈ l.take ξ, x.all = true)) (fun ξ => [(0, .int .i64 ((n : Nat) : Int)), (1, nv), (2, .int .i64 ((i : Nat) : Int)), (7, sv1), (8, .int .i64 0), (44, nv), (45, .int .i64 ((l.length : Nat) : Int)), (46, .int .i64 ((ξ : Nat) : Int))]) (fun ξ => []) (fun ξ => l.length - ξ) 0 ⟨by first | omega | (dsimp only; omega), fun x hx => by simp at hx⟩ ((.cons rfl (.cons rfl (.cons rfl (.cons rfl (.cons rfl (.cons rfl (.cons rfl (.cons rfl .nil))))))))) rfl ?_
  rintro a ⟨ha, hal⟩
  refine Gx.know (m' := [(0, .int .i64 ((n : Nat) : Int)), (1, nv), (2, .int .i64 ((i : Nat) : Int)), (7, sv1), (8, .int .i64 0), (44, nv), (45, .int .i64 ((l.length : Nat) : Int)), (46, .int .i64 ((a : Nat) : Int))]) (.cons rfl (.cons rfl (.cons rfl (.cons rfl (.cons rfl (.cons rfl (.cons rfl (.cons rfl .nil)))))))) (Gx.norm (l' := []) rfl ?_)
  refine Gx.seq ?_
  refine Gx.region ?_
  refine Gx.val rfl rfl rfl (val_lss rfl rfl rfl) ?_
  refine Gx.done ?_
  refine Gx.thenN ?_
  refine Gx.seq ?_
  refine Gx.dec rfl (fun h7 => ?_) (fun h7 => ?_)
  · refine Gx.skip ?_
    refine Gx.thenN ?_
    refine Gx.seq ?_
    refine Gx.block ?_
    refine Gx.seq ?_
    refine Gx.region ?_
    obtain ⟨x8, hx8⟩ := get_of_lt (xs := l) (k := a) (by omega)
    refine Gx.val rfl rfl rfl (val_ixa rfl Try.underlying22 Try.ty38 rfl rfl (j := a) (rfl) (reach_base hs5 hx8)) ?_
    refine Gx.val rfl rfl rfl (Val.cast (val_loadA rfl Try.ty38 rfl rfl rfl (cells_base hs5 hx8)) (v' := .agg #[.int .i64 x8.who, .bool x8.all, .slice x8.a x8.n x8.c]) rfl) ?_
    refine Gx.eff rfl rfl rfl (eff_alloc rfl Try.ty38 (vs := [.int .i64 0, .bool false, .slice none 0 0]) rfl) ?_
    rintro _ _ ⟨b9, rfl, rfl⟩
    refine Gx.eff0 rfl rfl (eff_store rfl Try.ty38 rfl rfl (us := [.int .i64 x8.who, .bool x8.all, .slice x8.a x8.n x8.c]) rfl rfl rfl (k := 0) rfl (rfl) (vs' := [.int .i64 x8.who, .bool x8.all, .slice x8.a x8.n x8.c]) (rfl) (l' := [Hp.rec_ b9 [.int .i64 x8.who, .bool x8.all, .slice x8.a x8.n x8.c]]) rfl) ?_
    rintro _ _ rfl
    refine Gx.done ?_
    refine Gx.thenN ?_
    refine Gx.seq ?_
    refine Gx.region ?_
    refine Gx.val rfl rfl rfl (Val.cast (val_fieldAddr rfl Try.underlying38 rfl Try.ty4 rfl rfl) (v' := ptr b9 1) rfl) ?_
    refine Gx.val rfl rfl rfl (val_load rfl Try.ty4 rfl rfl (cell_rec (k := 0) rfl rfl)) ?_
    refine Gx.val rfl rfl rfl (val_not rfl rfl) ?_
    refine Gx.done ?_
    refine Gx.thenN ?_
    refine Gx.bool rfl (fun h10 => ?_) (fun h10 => ?_)
    · refine Gx.seq ?_
      refine Gx.region ?_
      refine Gx.val rfl rfl rfl (val_assign rfl rfl) ?_
      refine Gx.done ?_
      refine Gx.thenN ?_
      refine Gx.ret ?_
      refine Gx.blkR ?_
      refine Gx.thenR ?_
      refine Gx.thenR ?_
      refine Gx.blkR ?_
      refine Gx.thenR ?_
      refine Gx.ret1B hW4 Try.results6 rfl ?_
      rfl
    · refine Gx.skip ?_
      refine Gx.blkN ?_
      refine Gx.thenN ?_
      refine Gx.region ?_
      refine Gx.val rfl rfl rfl (val_add rfl rfl rfl (r := ((a + 1 : Nat) : Int)) (w64 (by omega) (by omega))) ?_
      refine Gx.val rfl rfl rfl (val_move rfl rfl) ?_
      refine Gx.done ?_
      refine Gx.thenN ?_
      refine Gx.drop 0 rfl ?_
      exact Gx.round (a + 1) ⟨by first | omega | (dsimp only; omega), fun y hy => by
          rcases (mem_take_succ hx8).1 hy with q | hyx
          · exact hal y q
          · rw [hyx]; simpa using h10⟩ (by first | omega | (dsimp only; omega)) ((.cons rfl (.cons rfl (.cons rfl (.cons rfl (.cons rfl (.cons rfl (.cons rfl (.cons rfl .nil))))))))) rfl
  · refine Gx.exit ?_
    refine Gx.thenE ?_
    refine Gx.thenE ?_
    refine Gx.blkE ?_
    refine Gx.thenN ?_
    refine Gx.seq ?_
    obtain rfl : a = l.length := by omega
    rw [List.take_length] at hal
    refine Gx.region ?_
    refine Gx.val rfl rfl rfl (val_move rfl rfl) ?_
    refine Gx.val rfl rfl rfl (val_move rfl rfl) ?_
    refine Gx.eff rfl rfl rfl (eff_callN (vs := [.int .i64 ((n : Nat) : Int), nv]) rfl Try.fn15 rfl (fun w H => waits_own (hN2.below H.below) hk)) ?_
    rintro wv _ ⟨_, ⟨hiwv, w, rfl, hwr⟩, rfl⟩
    refine Gx.norm (l' := [Hp.own FB 1 wv w]) rfl ?_
    refine Gx.val rfl rfl rfl (val_assign rfl rfl) ?_
    refine Gx.done ?_
    refine Gx.thenN ?_
    refine Gx.seq ?_
    have hwrl := hwr.len
    refine Gx.region ?_
    refine Gx.val rfl rfl rfl (val_assign rfl rfl) ?_
    refine Gx.done ?_
    refine Gx.thenN ?_
    refine Gx.seq ?_
    refine Gx.seq ?_
    refine Gx.region ?_
    refine Gx.val rfl rfl rfl (val_assign rfl rfl) ?_
    refine Gx.done ?_
    refine Gx.thenN ?_
    refine Gx.block ?_
    refine Gx.loop (ι := Nat × Bool) (fun ξ => (ξ.1 ≤ n) ∧ (ξ.2 = true ↔ ∃ q, q < ξ.1 ∧ Rch l q q ∧ (q = i ∨ Rch l i q))) (fun ξ => [(0, .int .i64 ((n : Nat) : Int)), (1, nv), (2, .int .i64 ((i : Nat) : Int)), (7, sv1), (8, .int .i64 0), (13, wv), (14, .bool ξ.2), (15, .int .i64 ((ξ.1 : Nat) : Int))]) (fun ξ => [Hp.own FB 1 wv w]) (fun ξ => n - ξ.1) (0, false) ⟨by first | omega | (dsimp only; omega), by simp⟩ ((.cons rfl (.cons rfl (.cons rfl (.cons rfl (.cons rfl (.cons rfl (.cons rfl (.cons rfl .nil))))))))) rfl ?_
    rintro ⟨j, rb⟩ ⟨hj, hrb⟩
    dsimp only at hj hrb
    refine Gx.know (m' := [(0, .int .i64 ((n : Nat) : Int)), (1, nv), (2, .int .i64 ((i : Nat) : Int)), (7, sv1), (8, .int .i64 0), (13, wv), (14, .bool rb), (15, .int .i64 ((j : Nat) : Int))]) (.cons rfl (.cons rfl (.cons rfl (.cons rfl (.cons rfl (.cons rfl (.cons rfl (.cons rfl .nil)))))))) (Gx.norm (l' := [Hp.own FB 1 wv w]) rfl ?_)
    refine Gx.seq ?_
    refine Gx.seq ?_
    refine Gx.region ?_
    refine Gx.val rfl rfl rfl (val_move rfl rfl) ?_
    refine Gx.val rfl rfl rfl (val_move rfl rfl) ?_
    refine Gx.val rfl rfl rfl (val_lss rfl rfl rfl) ?_
    refine Gx.done ?_
    refine Gx.thenN ?_
    refine Gx.dec rfl (fun h11 => ?_) (fun h11 => ?_)
    · refine Gx.skip ?_
      refine Gx.thenN ?_
      refine Gx.seq ?_
      refine Gx.block ?_
      refine Gx.seq ?_
      refine Gx.region ?_
      refine Gx.val rfl rfl rfl (val_move rfl rfl) ?_
      refine Gx.val rfl rfl rfl (val_move rfl rfl) ?_
      refine Gx.val rfl rfl rfl (val_move rfl rfl) ?_
      refine Gx.eff rfl rfl rfl (eff_callE (vs := [.int .i64 ((n : Nat) : Int), nv, .int .i64 ((j : Nat) : Int)]) rfl Try.fn16 rfl (R := fun v => ∃ b : Bool, v = .tuple #[.bool b, .int .i64 0] ∧ (b = true ↔ Rch l j j)) (fun w H => round_ok (hN2.below H.below) hk (by omega))) ?_
      rintro _ _ ⟨⟨bj, rfl, hbj⟩, rfl⟩
      refine Gx.val rfl rfl rfl (val_move rfl rfl) ?_
      refine Gx.val rfl rfl rfl (val_extract rfl rfl rfl) ?_
      refine Gx.val rfl rfl rfl (val_extract rfl rfl rfl) ?_
      refine Gx.val rfl rfl rfl (val_assign rfl rfl) ?_
      refine Gx.val rfl rfl rfl (val_assign rfl rfl) ?_
      refine Gx.done ?_
      refine Gx.thenN ?_
      refine Gx.seq ?_
      refine Gx.seq ?_
      have hjn : j * n + n ≤ n * n := by rw [← Nat.succ_mul]; exact Nat.mul_le_mul_right n (by omega)
      refine Gx.region ?_
      refine Gx.val rfl rfl rfl (val_move rfl rfl) ?_
      refine Gx.val rfl rfl rfl (Val.cast (val_neq rfl rfl rfl) (v' := .bool false) rfl) ?_
      refine Gx.val rfl rfl rfl (val_move rfl rfl) ?_
      refine Gx.valg rfl rfl rfl rfl rfl (val_move rfl rfl) ?_
      refine Gx.valg rfl rfl rfl rfl rfl (val_move rfl rfl) ?_
      refine Gx.valg rfl rfl rfl rfl rfl (val_move rfl rfl) ?_
      refine Gx.valg rfl rfl rfl rfl rfl (val_move rfl rfl) ?_
      refine Gx.valg rfl rfl rfl rfl rfl (val_mul rfl rfl rfl (r := ((j * n : Nat) : Int)) (w64 (by rw [Int.natCast_mul]) (by omega))) ?_
      refine Gx.valg rfl rfl rfl rfl rfl (val_move rfl rfl) ?_
      refine Gx.valg rfl rfl rfl rfl rfl (val_add rfl rfl rfl (r := ((j * n + j : Nat) : Int)) (w64 (by omega) (by omega))) ?_
      obtain ⟨x12, hx12⟩ := get_of_lt (xs := w) (k := j * n + j) (by omega)
      refine Gx.valg rfl rfl rfl rfl rfl (val_ixa rfl Try.underlying36 Try.ty4 rfl rfl (j := j * n + j) (rfl) (reach_own (k := 0) rfl hx12)) ?_
      refine Gx.valg rfl rfl rfl rfl rfl (val_load rfl Try.ty4 rfl rfl (cell_own (i := 0) (sz := 1) (j := j * n + j) (k := 0) rfl hx12 rfl)) ?_
      refine Gx.valg rfl rfl rfl rfl rfl (val_neqB Try.underlying4 rfl rfl rfl) ?_
      refine Gx.val rfl rfl rfl (val_pickF rfl rfl rfl) ?_
      refine Gx.done ?_
      refine Gx.thenN ?_
      refine Gx.boolF rfl (by (have h8 : (x12 = true ↔ Rch l j j) := (by rw [← hwr.on j j (by omega) (by omega), on_of hx12]); have h9 : bj = x12 := Bool.eq_iff_iff.2 (hbj.trans h8.symm); rw [h9]; simp)) ?_
      refine Gx.skip ?_
      refine Gx.thenN ?_
      refine Gx.region ?_
      refine Gx.val rfl rfl rfl (val_move rfl rfl) ?_
      refine Gx.val rfl rfl rfl (val_move rfl rfl) ?_
      refine Gx.casesB (t := 84) rfl (fun h13 => ?_) (fun h13 => ?_)
      · refine Gx.skipg rfl rfl rfl rfl rfl rfl ?_
        refine Gx.skipg rfl rfl rfl rfl rfl rfl ?_
        refine Gx.skipu rfl rfl rfl rfl rfl ?_
        refine Gx.skipu rfl rfl rfl rfl rfl ?_
        refine Gx.skipu rfl rfl rfl rfl rfl ?_
        refine Gx.skipu rfl rfl rfl rfl rfl ?_
        refine Gx.skipu rfl rfl rfl rfl rfl ?_
        refine Gx.skipu rfl rfl rfl rfl rfl ?_
        refine Gx.skipu rfl rfl rfl rfl rfl ?_
        refine Gx.skipu rfl rfl rfl rfl rfl ?_
        refine Gx.skipu rfl rfl rfl rfl rfl ?_
        refine Gx.skipu rfl rfl rfl rfl rfl ?_
        refine Gx.skipu rfl rfl rfl rfl rfl ?_
        refine Gx.skipu rfl rfl rfl rfl rfl ?_
        refine Gx.skipu rfl rfl rfl rfl rfl ?_
        refine Gx.skipg rfl rfl rfl rfl rfl rfl ?_
        refine Gx.val rfl rfl rfl (val_pickT rfl rfl rfl) ?_
        refine Gx.val rfl rfl rfl (val_assign rfl rfl) ?_
        refine Gx.done ?_
        refine Gx.blkN ?_
        refine Gx.thenN ?_
        refine Gx.region ?_
        refine Gx.val rfl rfl rfl (val_move rfl rfl) ?_
        refine Gx.val rfl rfl rfl (val_add rfl rfl rfl (r := ((j + 1 : Nat) : Int)) (w64 (by omega) (by omega))) ?_
        refine Gx.val rfl rfl rfl (val_assign rfl rfl) ?_
        refine Gx.done ?_
        refine Gx.thenN ?_
        have hsp : (∃ q, q < j + 1 ∧ Rch l q q ∧ (q = i ∨ Rch l i q)) ↔ (∃ q, q < j ∧ Rch l q q ∧ (q = i ∨ Rch l i q)) ∨ (Rch l j j ∧ (j = i ∨ Rch l i j)) := by
          constructor
          · rintro ⟨q, h1, h2⟩
            rcases Nat.lt_or_eq_of_le (Nat.le_of_lt_succ h1) with z | rfl
            · exact .inl ⟨q, z, h2⟩
            · exact .inr h2
          · rintro (⟨q, h1, h2⟩ | h2)
            · exact ⟨q, by omega, h2⟩
            · exact ⟨j, by omega, h2⟩
        exact Gx.round (j + 1, true) ⟨by first | omega | (dsimp only; omega), by dsimp only; rw [hsp, ← hrb, ← hbj]; clear hsp; simp_all⟩ (by first | omega | (dsimp only; omega)) ((.cons rfl (.cons rfl (.cons rfl (.cons rfl (.cons rfl (.cons rfl (.cons rfl (.cons rfl .nil))))))))) rfl
      · refine Gx.valg rfl rfl rfl rfl rfl (val_move rfl rfl) ?_
        refine Gx.valg rfl rfl rfl rfl rfl (val_move rfl rfl) ?_
        refine Gx.casesB (t := 86) rfl (fun h14 => ?_) (fun h14 => ?_)
        · refine Gx.valg rfl rfl rfl rfl rfl (val_move rfl rfl) ?_
          refine Gx.valg rfl rfl rfl rfl rfl (val_move rfl rfl) ?_
          refine Gx.valg rfl rfl rfl rfl rfl (val_eql rfl rfl rfl) ?_
          refine Gx.valg rfl rfl rfl rfl rfl (val_move rfl rfl) ?_
          refine Gx.cases (t := 90) rfl (fun h15 => ?_) (fun h15 => ?_)
          · refine Gx.skipg rfl rfl rfl rfl rfl rfl ?_
            refine Gx.skipg rfl rfl rfl rfl rfl rfl ?_
            refine Gx.skipg rfl rfl rfl rfl rfl rfl ?_
            refine Gx.skipg rfl rfl rfl rfl rfl rfl ?_
            refine Gx.skipg rfl rfl rfl rfl rfl rfl ?_
            refine Gx.skipg rfl rfl rfl rfl rfl rfl ?_
            refine Gx.skipg rfl rfl rfl rfl rfl rfl ?_
            refine Gx.skipg rfl rfl rfl rfl rfl rfl ?_
            refine Gx.valg rfl rfl rfl rfl rfl (val_pickT rfl rfl rfl) ?_
            refine Gx.valg rfl rfl rfl rfl rfl (val_pickT rfl rfl rfl) ?_
            refine Gx.val rfl rfl rfl (val_pickF rfl rfl rfl) ?_
            refine Gx.val rfl rfl rfl (val_assign rfl rfl) ?_
            refine Gx.done ?_
            refine Gx.blkN ?_
            refine Gx.thenN ?_
            refine Gx.region ?_
            refine Gx.val rfl rfl rfl (val_move rfl rfl) ?_
            refine Gx.val rfl rfl rfl (val_add rfl rfl rfl (r := ((j + 1 : Nat) : Int)) (w64 (by omega) (by omega))) ?_
            refine Gx.val rfl rfl rfl (val_assign rfl rfl) ?_
            refine Gx.done ?_
            refine Gx.thenN ?_
            have hsp : (∃ q, q < j + 1 ∧ Rch l q q ∧ (q = i ∨ Rch l i q)) ↔ (∃ q, q < j ∧ Rch l q q ∧ (q = i ∨ Rch l i q)) ∨ (Rch l j j ∧ (j = i ∨ Rch l i j)) := by
              constructor
              · rintro ⟨q, h1, h2⟩
                rcases Nat.lt_or_eq_of_le (Nat.le_of_lt_succ h1) with z | rfl
                · exact .inl ⟨q, z, h2⟩
                · exact .inr h2
              · rintro (⟨q, h1, h2⟩ | h2)
                · exact ⟨q, by omega, h2⟩
                · exact ⟨j, by omega, h2⟩
            have hji : j = i := by omega
            exact Gx.round (j + 1, true) ⟨by first | omega | (dsimp only; omega), by dsimp only; rw [hsp, ← hrb, ← hbj]; clear h15; clear hsp; simp_all⟩ (by first | omega | (dsimp only; omega)) ((.cons rfl (.cons rfl (.cons rfl (.cons rfl (.cons rfl (.cons rfl (.cons rfl (.cons rfl .nil))))))))) rfl
          · refine Gx.valg rfl rfl rfl rfl rfl (val_move rfl rfl) ?_
            refine Gx.valg rfl rfl rfl rfl rfl (val_move rfl rfl) ?_
            refine Gx.valg rfl rfl rfl rfl rfl (val_move rfl rfl) ?_
            refine Gx.valg rfl rfl rfl rfl rfl (val_mul rfl rfl rfl (r := ((i * n : Nat) : Int)) (w64 (by rw [Int.natCast_mul]) (by omega))) ?_
            refine Gx.valg rfl rfl rfl rfl rfl (val_move rfl rfl) ?_
            refine Gx.valg rfl rfl rfl rfl rfl (val_add rfl rfl rfl (r := ((i * n + j : Nat) : Int)) (w64 (by omega) (by omega))) ?_
            obtain ⟨x16, hx16⟩ := get_of_lt (xs := w) (k := i * n + j) (by omega)
            refine Gx.valg rfl rfl rfl rfl rfl (val_ixa rfl Try.underlying36 Try.ty4 rfl rfl (j := i * n + j) (rfl) (reach_own (k := 0) rfl hx16)) ?_
            refine Gx.valg rfl rfl rfl rfl rfl (val_load rfl Try.ty4 rfl rfl (cell_own (i := 0) (sz := 1) (j := i * n + j) (k := 0) rfl hx16 rfl)) ?_
            refine Gx.valg rfl rfl rfl rfl rfl (val_pickF rfl rfl rfl) ?_
            refine Gx.valg rfl rfl rfl rfl rfl (val_pickT rfl rfl rfl) ?_
            refine Gx.val rfl rfl rfl (val_pickF rfl rfl rfl) ?_
            refine Gx.val rfl rfl rfl (val_assign rfl rfl) ?_
            refine Gx.done ?_
            refine Gx.blkN ?_
            refine Gx.thenN ?_
            refine Gx.region ?_
            refine Gx.val rfl rfl rfl (val_move rfl rfl) ?_
            refine Gx.val rfl rfl rfl (val_add rfl rfl rfl (r := ((j + 1 : Nat) : Int)) (w64 (by omega) (by omega))) ?_
            refine Gx.val rfl rfl rfl (val_assign rfl rfl) ?_
            refine Gx.done ?_
            refine Gx.thenN ?_
            have hsp : (∃ q, q < j + 1 ∧ Rch l q q ∧ (q = i ∨ Rch l i q)) ↔ (∃ q, q < j ∧ Rch l q q ∧ (q = i ∨ Rch l i q)) ∨ (Rch l j j ∧ (j = i ∨ Rch l i j)) := by
              constructor
              · rintro ⟨q, h1, h2⟩
                rcases Nat.lt_or_eq_of_le (Nat.le_of_lt_succ h1) with z | rfl
                · exact .inl ⟨q, z, h2⟩
                · exact .inr h2
              · rintro (⟨q, h1, h2⟩ | h2)
                · exact ⟨q, by omega, h2⟩
                · exact ⟨j, by omega, h2⟩
            have hra : Rch l i j ↔ x16 = true := by rw [← hwr.on i j hi (by omega), on_of hx16]
            have hji : ¬ j = i := by omega
            exact Gx.round (j + 1, x16) ⟨by first | omega | (dsimp only; omega), by dsimp only; rw [hsp, ← hrb, ← hbj]; clear h15; clear hsp; simp_all⟩ (by first | omega | (dsimp only; omega)) ((.cons rfl (.cons rfl (.cons rfl (.cons rfl (.cons rfl (.cons rfl (.cons rfl (.cons rfl .nil))))))))) rfl
        · refine Gx.skipg rfl rfl rfl rfl rfl rfl ?_
          refine Gx.skipg rfl rfl rfl rfl rfl rfl ?_
          refine Gx.skipg rfl rfl rfl rfl rfl rfl ?_
          refine Gx.skipg rfl rfl rfl rfl rfl rfl ?_
          refine Gx.skipu rfl rfl rfl rfl rfl ?_
          refine Gx.skipu rfl rfl rfl rfl rfl ?_
          refine Gx.skipu rfl rfl rfl rfl rfl ?_
          refine Gx.skipu rfl rfl rfl rfl rfl ?_
          refine Gx.skipu rfl rfl rfl rfl rfl ?_
          refine Gx.skipu rfl rfl rfl rfl rfl ?_
          refine Gx.skipu rfl rfl rfl rfl rfl ?_
          refine Gx.skipu rfl rfl rfl rfl rfl ?_
          refine Gx.skipg rfl rfl rfl rfl rfl rfl ?_
          refine Gx.valg rfl rfl rfl rfl rfl (val_pickF rfl rfl rfl) ?_
          refine Gx.val rfl rfl rfl (val_pickF rfl rfl rfl) ?_
          refine Gx.val rfl rfl rfl (val_assign rfl rfl) ?_
          refine Gx.done ?_
          refine Gx.blkN ?_
          refine Gx.thenN ?_
          refine Gx.region ?_
          refine Gx.val rfl rfl rfl (val_move rfl rfl) ?_
          refine Gx.val rfl rfl rfl (val_add rfl rfl rfl (r := ((j + 1 : Nat) : Int)) (w64 (by omega) (by omega))) ?_
          refine Gx.val rfl rfl rfl (val_assign rfl rfl) ?_
          refine Gx.done ?_
          refine Gx.thenN ?_
          have hsp : (∃ q, q < j + 1 ∧ Rch l q q ∧ (q = i ∨ Rch l i q)) ↔ (∃ q, q < j ∧ Rch l q q ∧ (q = i ∨ Rch l i q)) ∨ (Rch l j j ∧ (j = i ∨ Rch l i j)) := by
            constructor
            · rintro ⟨q, h1, h2⟩
              rcases Nat.lt_or_eq_of_le (Nat.le_of_lt_succ h1) with z | rfl
              · exact .inl ⟨q, z, h2⟩
              · exact .inr h2
            · rintro (⟨q, h1, h2⟩ | h2)
              · exact ⟨q, by omega, h2⟩
              · exact ⟨j, by omega, h2⟩
          exact Gx.round (j + 1, false) ⟨by first | omega | (dsimp only; omega), by dsimp only; rw [hsp, ← hrb, ← hbj]; clear hsp; simp_all⟩ (by first | omega | (dsimp only; omega)) ((.cons rfl (.cons rfl (.cons rfl (.cons rfl (.cons rfl (.cons rfl (.cons rfl (.cons rfl .nil))))))))) rfl
    · refine Gx.exit ?_
      refine Gx.thenE ?_
      refine Gx.thenE ?_
      refine Gx.blkE ?_
      refine Gx.thenN ?_
      refine Gx.seq ?_
      obtain rfl : j = n := by omega
      have hff : rb = true ↔ 0 ≤ posI (stuckN j l) i := by
        rw [hrb, posI_ge, stuck_mem]
        exact ⟨fun h1 => ⟨hi, (all_free hk hal hi).2 h1⟩, fun h1 => (all_free hk hal hi).1 h1.2⟩
      refine Gx.region ?_
      refine Gx.val rfl rfl rfl (val_move rfl rfl) ?_
      refine Gx.val rfl rfl rfl (Val.cast (val_eql rfl rfl rfl) (v' := .bool true) rfl) ?_
      refine Gx.val rfl rfl rfl (val_move rfl rfl) ?_
      refine Gx.valg rfl rfl rfl rfl rfl (val_move rfl rfl) ?_
      refine Gx.valg rfl rfl rfl rfl rfl (val_move rfl rfl) ?_
      refine Gx.valg rfl rfl rfl rfl rfl (val_move rfl rfl) ?_
      refine Gx.valg rfl rfl rfl rfl rfl (val_call (vs := [sv1, .int .i64 ((i : Nat) : Int)]) rfl Try.fn14 rfl (fun w H => pos_any (hsv1.below H.below))) ?_
      refine Gx.valg rfl rfl rfl rfl rfl (val_geq rfl rfl rfl) ?_
      refine Gx.valg rfl rfl rfl rfl rfl (val_eqlB Try.underlying4 rfl rfl rfl) ?_
      refine Gx.val rfl rfl rfl (val_pickT rfl rfl rfl) ?_
      refine Gx.val rfl rfl rfl (val_assign rfl rfl) ?_
      refine Gx.done ?_
      refine Gx.thenN ?_
      refine Gx.ret ?_
      refine Gx.ret1B hW4 Try.results6 rfl ?_
      exact congrArg Value.bool (by cases rb <;> simp_all)

theorem any_any {W : World} {n i : Int} {nv : Value} {l : List Nd} (h : NdS W nv l) : Calls Try.prog 4 #[.int .i64 n, nv, .int .i64 i] W fun e w' => e = .returned (.bool true) ∧ Below W.heap.size W w' := by
  by_cases hk : OkN n l
  · obtain ⟨n, rfl⟩ : ∃ q : Nat, n = (q : Int) := ⟨n.toNat, by have := hk.n1; omega⟩
    cases hi : isN (n : Int) i with
    | false => exact any_out h hk hi
    | true =>
      have h1 := isN_iff.1 hi
      obtain ⟨i, rfl⟩ : ∃ q : Nat, i = (q : Int) := ⟨i.toNat, by omega⟩
      exact any_in h hk (by omega)
  · exact any_no h hk
theorem rnd_any {W : World} {n i : Int} {nv : Value} {l : List Nd} (h : NdS W nv l) : Calls Try.prog 6 #[.int .i64 n, nv, .int .i64 i] W fun e w' => e = .returned (.bool true) ∧ Below W.heap.size W w' := by
  by_cases hk : OkN n l
  · obtain ⟨n, rfl⟩ : ∃ q : Nat, n = (q : Int) := ⟨n.toNat, by have := hk.n1; omega⟩
    cases hi : isN (n : Int) i with
    | false => exact rnd_out h hk hi
    | true =>
      have h1 := isN_iff.1 hi
      obtain ⟨i, rfl⟩ : ∃ q : Nat, i = (q : Int) := ⟨i.toNat, by omega⟩
      exact rnd_in h hk (by omega)
  · exact rnd_no h hk
end Go.Proofs.Ytplcflifofomjaa
