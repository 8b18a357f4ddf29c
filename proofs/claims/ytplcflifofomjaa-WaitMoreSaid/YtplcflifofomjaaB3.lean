/- Without the last need. The walk. No condition. -/
import Derived.Test.YtplcflifofomjaaB1
namespace Go.Proofs.Ytplcflifofomjaa
open Go.RowKit
set_option linter.unusedVariables false
set_option linter.unusedSimpArgs false
set_option maxRecDepth 100000

theorem more_no {W : World} {n : Int} {nv : Value} {l : List Nd} (h : NdS W nv l) (hk : ¬ OkN n l) :
    Calls Try.prog 5 #[.int .i64 n, nv] W fun e w' => e = .returned (.bool true) ∧ Below W.heap.size W w' := by
  refine calls_pure (Gx.enter (l := []) Try.func5 rfl Try.ntmps5 rfl (Sat.start W) ?_)
  refine Gx.know (m' := [(0, .int .i64 n), (1, nv)]) (.cons rfl (.cons rfl .nil)) ?_
  refine Gx.seq ?_
  refine Gx.region ?_
  refine Gx.val rfl rfl rfl (val_assign rfl rfl) ?_
  refine Gx.done ?_
  refine Gx.thenN ?_
  refine Gx.seq ?_
  refine Gx.region ?_
  refine Gx.val rfl rfl rfl (val_move rfl rfl) ?_
  refine Gx.val rfl rfl rfl (val_move rfl rfl) ?_
  refine Gx.eff rfl rfl rfl (eff_callE (vs := [.int .i64 n, nv]) rfl Try.fn7 rfl (R := fun v => ∃ c : Int, v = .tuple #[.slice none 0 0, .int .i64 c] ∧ c ≠ 0) (fun w H => stuck_no (h.below H.below) hk)) ?_
  rintro _ _ ⟨⟨c, rfl, hc⟩, rfl⟩
  refine Gx.val rfl rfl rfl (val_move rfl rfl) ?_
  refine Gx.val rfl rfl rfl (val_extract rfl rfl rfl) ?_
  refine Gx.val rfl rfl rfl (val_extract rfl rfl rfl) ?_
  refine Gx.val rfl rfl rfl (val_assign rfl rfl) ?_
  refine Gx.val rfl rfl rfl (val_assign rfl rfl) ?_
  refine Gx.done ?_
  refine Gx.thenN ?_
  refine Gx.seq ?_
  refine Gx.seq ?_
  refine Gx.region ?_
  refine Gx.val rfl rfl rfl (val_move rfl rfl) ?_
  refine Gx.val rfl rfl rfl (val_move rfl rfl) ?_
  refine Gx.val rfl rfl rfl (val_call (vs := [.int .i64 n, nv]) rfl Try.fn8 rfl (fun w H => needs_not (h.below H.below) hk)) ?_
  refine Gx.val rfl rfl rfl (Val.cast (val_not rfl rfl) (v' := .bool true) rfl) ?_
  refine Gx.val rfl rfl rfl (val_move rfl rfl) ?_
  refine Gx.skipg rfl rfl rfl rfl rfl rfl ?_
  refine Gx.skipg rfl rfl rfl rfl rfl rfl ?_
  refine Gx.skipg rfl rfl rfl rfl rfl rfl ?_
  refine Gx.val rfl rfl rfl (val_pickT rfl rfl rfl) ?_
  refine Gx.done ?_
  refine Gx.thenN ?_
  refine Gx.t rfl ?_
  refine Gx.seq ?_
  refine Gx.region ?_
  refine Gx.val rfl rfl rfl (val_move rfl rfl) ?_
  refine Gx.val rfl rfl rfl (val_move rfl rfl) ?_
  refine Gx.val rfl rfl rfl (val_call (vs := [.int .i64 n, nv]) rfl Try.fn8 rfl (fun w H => needs_not (h.below H.below) hk)) ?_
  refine Gx.val rfl rfl rfl (val_move rfl rfl) ?_
  refine Gx.val rfl rfl rfl (val_eql rfl rfl rfl) ?_
  refine Gx.val rfl rfl rfl (val_eqlB Try.underlying4 rfl rfl rfl) ?_
  refine Gx.val rfl rfl rfl (val_assign rfl rfl) ?_
  refine Gx.done ?_
  refine Gx.thenN ?_
  refine Gx.ret ?_
  refine Gx.thenR ?_
  refine Gx.ret1 Try.results5 rfl ?_
  exact congrArg Value.bool (by rw [decide_eq_false hc]; rfl)

theorem more_nil {W : World} {n : Nat} {nv : Value} (h : NdS W nv ([] : List Nd)) (hk : OkN (n : Int) ([] : List Nd)) :
    Calls Try.prog 5 #[.int .i64 ((n : Nat) : Int), nv] W fun e w' => e = .returned (.bool true) ∧ Below W.heap.size W w' := by
  refine calls_pure (Gx.enter (l := []) Try.func5 rfl Try.ntmps5 rfl (Sat.start W) ?_)
  refine Gx.know (m' := [(0, .int .i64 ((n : Nat) : Int)), (1, nv)]) (.cons rfl (.cons rfl .nil)) ?_
  refine Gx.seq ?_
  refine Gx.region ?_
  refine Gx.val rfl rfl rfl (val_assign rfl rfl) ?_
  refine Gx.done ?_
  refine Gx.thenN ?_
  refine Gx.seq ?_
  refine Gx.region ?_
  refine Gx.val rfl rfl rfl (val_move rfl rfl) ?_
  refine Gx.val rfl rfl rfl (val_move rfl rfl) ?_
  refine Gx.callB rfl rfl rfl (vs := [.int .i64 ((n : Nat) : Int), nv]) rfl Try.fn7 rfl (R := fun v w' => ∃ sv : Value, v = .tuple #[sv, .int .i64 0] ∧ SlS FN 1 w' sv (stuckN n ([] : List Nd))) (fun w H => stuck_ok (h.below H.below) hk) ?_
  rintro _ W2 ⟨sv1, rfl, hsv1⟩ H3
  have hW4 := H3.below
  have hs5 := h.sl.below H3.below
  refine Gx.val rfl rfl rfl (val_move rfl rfl) ?_
  refine Gx.val rfl rfl rfl (val_extract rfl rfl rfl) ?_
  refine Gx.val rfl rfl rfl (val_extract rfl rfl rfl) ?_
  refine Gx.val rfl rfl rfl (val_assign rfl rfl) ?_
  refine Gx.val rfl rfl rfl (val_assign rfl rfl) ?_
  refine Gx.done ?_
  refine Gx.thenN ?_
  refine Gx.seq ?_
  refine Gx.seq ?_
  have hN2 := h.below hW4
  refine Gx.region ?_
  refine Gx.val rfl rfl rfl (val_move rfl rfl) ?_
  refine Gx.val rfl rfl rfl (val_move rfl rfl) ?_
  refine Gx.val rfl rfl rfl (val_call (vs := [.int .i64 ((n : Nat) : Int), nv]) rfl Try.fn8 rfl (fun w H => needs_yes (hN2.below H.below) hk)) ?_
  refine Gx.val rfl rfl rfl (Val.cast (val_not rfl rfl) (v' := .bool false) rfl) ?_
  refine Gx.val rfl rfl rfl (val_move rfl rfl) ?_
  refine Gx.valg rfl rfl rfl rfl rfl (val_move rfl rfl) ?_
  refine Gx.valg rfl rfl rfl rfl rfl (val_len rfl Try.underlying22 rfl (len_base hs5)) ?_
  refine Gx.valg rfl rfl rfl rfl rfl (val_eql rfl rfl rfl) ?_
  refine Gx.val rfl rfl rfl (val_pickF rfl rfl rfl) ?_
  refine Gx.done ?_
  refine Gx.thenN ?_
  refine Gx.decT rfl (by rfl) ?_
  refine Gx.seq ?_
  refine Gx.region ?_
  refine Gx.val rfl rfl rfl (val_move rfl rfl) ?_
  refine Gx.val rfl rfl rfl (val_move rfl rfl) ?_
  refine Gx.val rfl rfl rfl (val_call (vs := [.int .i64 ((n : Nat) : Int), nv]) rfl Try.fn8 rfl (fun w H => needs_yes (hN2.below H.below) hk)) ?_
  refine Gx.val rfl rfl rfl (val_move rfl rfl) ?_
  refine Gx.val rfl rfl rfl (Val.cast (val_eql rfl rfl rfl) (v' := .bool true) rfl) ?_
  refine Gx.val rfl rfl rfl (val_eqlB Try.underlying4 rfl rfl rfl) ?_
  refine Gx.val rfl rfl rfl (val_assign rfl rfl) ?_
  refine Gx.done ?_
  refine Gx.thenN ?_
  refine Gx.ret ?_
  refine Gx.thenR ?_
  refine Gx.ret1B hW4 Try.results5 rfl ?_
  exact rfl

theorem more_yes {W : World} {n : Nat} {nv : Value} {l : List Nd} {z : Nd} (h : NdS W nv (l ++ [z])) (hk : OkN (n : Int) (l ++ [z])) :
    Calls Try.prog 5 #[.int .i64 ((n : Nat) : Int), nv] W fun e w' => e = .returned (.bool true) ∧ Below W.heap.size W w' := by
  have m1 := sls_bd h.sl
  have hn12 := hk.n12
  have hkl := hk.len
  refine calls_pure (Gx.enter (l := []) Try.func5 rfl Try.ntmps5 rfl (Sat.start W) ?_)
  refine Gx.know (m' := [(0, .int .i64 ((n : Nat) : Int)), (1, nv)]) (.cons rfl (.cons rfl .nil)) ?_
  refine Gx.seq ?_
  refine Gx.region ?_
  refine Gx.val rfl rfl rfl (val_assign rfl rfl) ?_
  refine Gx.done ?_
  refine Gx.thenN ?_
  refine Gx.seq ?_
  refine Gx.region ?_
  refine Gx.val rfl rfl rfl (val_move rfl rfl) ?_
  refine Gx.val rfl rfl rfl (val_move rfl rfl) ?_
  refine Gx.callB rfl rfl rfl (vs := [.int .i64 ((n : Nat) : Int), nv]) rfl Try.fn7 rfl (R := fun v w' => ∃ sv : Value, v = .tuple #[sv, .int .i64 0] ∧ SlS FN 1 w' sv (stuckN n (l ++ [z]))) (fun w H => stuck_ok (h.below H.below) hk) ?_
  rintro _ W2 ⟨sv1, rfl, hsv1⟩ H3
  have hW4 := H3.below
  have hs5 := h.sl.below H3.below
  refine Gx.val rfl rfl rfl (val_move rfl rfl) ?_
  refine Gx.val rfl rfl rfl (val_extract rfl rfl rfl) ?_
  refine Gx.val rfl rfl rfl (val_extract rfl rfl rfl) ?_
  refine Gx.val rfl rfl rfl (val_assign rfl rfl) ?_
  refine Gx.val rfl rfl rfl (val_assign rfl rfl) ?_
  refine Gx.done ?_
  refine Gx.thenN ?_
  refine Gx.seq ?_
  refine Gx.seq ?_
  have hN2 := h.below hW4
  have hle := stkU_le (freeN n (l ++ [z])) n
  have hsn : (stuckN n (l ++ [z])).length ≤ 12 := by unfold stuckN; omega
  have hlen : (l ++ [z]).length = l.length + 1 := by simp
  refine Gx.region ?_
  refine Gx.val rfl rfl rfl (val_move rfl rfl) ?_
  refine Gx.val rfl rfl rfl (val_move rfl rfl) ?_
  refine Gx.val rfl rfl rfl (val_call (vs := [.int .i64 ((n : Nat) : Int), nv]) rfl Try.fn8 rfl (fun w H => needs_yes (hN2.below H.below) hk)) ?_
  refine Gx.val rfl rfl rfl (Val.cast (val_not rfl rfl) (v' := .bool false) rfl) ?_
  refine Gx.val rfl rfl rfl (val_move rfl rfl) ?_
  refine Gx.valg rfl rfl rfl rfl rfl (val_move rfl rfl) ?_
  refine Gx.valg rfl rfl rfl rfl rfl (val_len rfl Try.underlying22 rfl (len_base hs5)) ?_
  refine Gx.valg rfl rfl rfl rfl rfl (val_eql rfl rfl rfl) ?_
  refine Gx.val rfl rfl rfl (val_pickF rfl rfl rfl) ?_
  refine Gx.done ?_
  refine Gx.thenN ?_
  refine Gx.decF rfl (by omega) ?_
  refine Gx.skip ?_
  refine Gx.thenN ?_
  refine Gx.seq ?_
  refine Gx.region ?_
  refine Gx.val rfl rfl rfl (val_move rfl rfl) ?_
  refine Gx.val rfl rfl rfl (val_move rfl rfl) ?_
  refine Gx.val rfl rfl rfl (val_move rfl rfl) ?_
  refine Gx.val rfl rfl rfl (val_len rfl Try.underlying22 rfl (len_base hs5)) ?_
  refine Gx.val rfl rfl rfl (val_sub rfl rfl rfl (r := ((l.length : Nat) : Int)) (w64 (by omega) (by omega))) ?_
  have hcut6 : SlS FD 3 W2 (sCut 3 0 l.length nv) ((l ++ [z]).take l.length) := (hs5).cut (lo := 0) (hi := l.length) (by omega) (by omega)
  refine Gx.val rfl rfl rfl (val_cutTo (up := l.length) rfl Try.underlying22 Try.ty38 rfl hs5 rfl (rfl) (by omega)) ?_
  have hN3 : NdS W2 (sCut 3 0 l.length nv) l := ⟨by have h9 := hcut6; rw [List.take_left' rfl] at h9; exact h9, fun x hx => hN2.fr x (List.mem_append_left _ hx)⟩
  refine Gx.callB rfl rfl rfl (vs := [.int .i64 ((n : Nat) : Int), sCut 3 0 l.length nv]) rfl Try.fn7 rfl (R := fun v w' => ∃ sv : Value, v = .tuple #[sv, .int .i64 0] ∧ SlS FN 1 w' sv (stuckN n l)) (fun w H => stuck_ok (hN3.below H.below) hk.init) ?_
  rintro _ W8 ⟨sv7, rfl, hsv7⟩ H9
  have hW10 := hW4.trans (H9.below.mono hW4.size)
  have hs11 := hs5.below H9.below
  have hs12 := hsv1.below H9.below
  have hs13 := hN3.sl.below H9.below
  refine Gx.val rfl rfl rfl (val_move rfl rfl) ?_
  refine Gx.val rfl rfl rfl (val_extract rfl rfl rfl) ?_
  refine Gx.val rfl rfl rfl (val_extract rfl rfl rfl) ?_
  refine Gx.val rfl rfl rfl (val_assign rfl rfl) ?_
  refine Gx.val rfl rfl rfl (val_assign rfl rfl) ?_
  refine Gx.done ?_
  refine Gx.thenN ?_
  refine Gx.seq ?_
  refine Gx.seq ?_
  have hN4 := hN2.below H9.below
  have hle2 := stkU_le (freeN n l) n
  have hsm : (stuckN n l).length ≤ 12 := by unfold stuckN; omega
  refine Gx.region ?_
  refine Gx.val rfl rfl rfl (val_move rfl rfl) ?_
  refine Gx.val rfl rfl rfl (Val.cast (val_neq rfl rfl rfl) (v' := .bool false) rfl) ?_
  refine Gx.val rfl rfl rfl (val_move rfl rfl) ?_
  refine Gx.valg rfl rfl rfl rfl rfl (val_move rfl rfl) ?_
  refine Gx.valg rfl rfl rfl rfl rfl (Val.cast (val_neq rfl rfl rfl) (v' := .bool false) rfl) ?_
  refine Gx.val rfl rfl rfl (val_pickF rfl rfl rfl) ?_
  refine Gx.done ?_
  refine Gx.thenN ?_
  refine Gx.f rfl ?_
  refine Gx.skip ?_
  refine Gx.thenN ?_
  refine Gx.seq ?_
  refine Gx.seq ?_
  refine Gx.region ?_
  refine Gx.val rfl rfl rfl (val_move rfl rfl) ?_
  refine Gx.val rfl rfl rfl (val_len rfl Try.underlying24 rfl (len_base hsv7)) ?_
  refine Gx.val rfl rfl rfl (val_move rfl rfl) ?_
  refine Gx.done ?_
  refine Gx.thenN ?_
  refine Gx.block ?_
  refine Gx.loop (ι := Nat) (fun ξ => (ξ ≤ (stuckN n l).length)) (fun ξ => [(0, .int .i64 ((n : Nat) : Int)), (1, nv), (5, sv1), (7, sv7), (54, sv7), (55, .int .i64 (((stuckN n l).length : Nat) : Int)), (56, .int .i64 ((ξ : Nat) : Int))]) (fun ξ => []) (fun ξ => (stuckN n l).length - ξ) 0 (by first | omega | (dsimp only; omega)) ((.cons rfl (.cons rfl (.cons rfl (.cons rfl (.cons rfl (.cons rfl (.cons rfl .nil)))))))) rfl ?_
  rintro i hi
  refine Gx.know (m' := [(0, .int .i64 ((n : Nat) : Int)), (1, nv), (5, sv1), (7, sv7), (54, sv7), (55, .int .i64 (((stuckN n l).length : Nat) : Int)), (56, .int .i64 ((i : Nat) : Int))]) (.cons rfl (.cons rfl (.cons rfl (.cons rfl (.cons rfl (.cons rfl (.cons rfl .nil))))))) (Gx.norm (l' := []) rfl ?_)
  refine Gx.seq ?_
  refine Gx.region ?_
  refine Gx.val rfl rfl rfl (val_lss rfl rfl rfl) ?_
  refine Gx.done ?_
  refine Gx.thenN ?_
  refine Gx.seq ?_
  refine Gx.dec rfl (fun h14 => ?_) (fun h14 => ?_)
  · refine Gx.skip ?_
    refine Gx.thenN ?_
    refine Gx.seq ?_
    refine Gx.block ?_
    refine Gx.seq ?_
    refine Gx.region ?_
    obtain ⟨x15, hx15⟩ := get_of_lt (xs := (stuckN n l)) (k := i) (by omega)
    refine Gx.val rfl rfl rfl (val_ixa rfl Try.underlying24 Try.ty3 rfl rfl (j := i) (rfl) (reach_base hsv7 hx15)) ?_
    refine Gx.val rfl rfl rfl (val_load rfl Try.ty3 rfl rfl (cell_base (i := 0) hsv7 hx15 rfl)) ?_
    refine Gx.val rfl rfl rfl (val_assign rfl rfl) ?_
    refine Gx.done ?_
    refine Gx.thenN ?_
    refine Gx.seq ?_
    refine Gx.region ?_
    refine Gx.val rfl rfl rfl (val_move rfl rfl) ?_
    refine Gx.val rfl rfl rfl (val_move rfl rfl) ?_
    refine Gx.val rfl rfl rfl (val_call (vs := [sv1, .int .i64 ((x15 : Nat) : Int)]) rfl Try.fn14 rfl (fun w H => pos_any (hs12.below H.below))) ?_
    refine Gx.val rfl rfl rfl (val_lss rfl rfl rfl) ?_
    refine Gx.done ?_
    refine Gx.thenN ?_
    refine Gx.decF rfl (by have h8 := posI_ge.2 (more_sub hk (List.mem_of_getElem? hx15)); omega) ?_
    refine Gx.skip ?_
    refine Gx.blkN ?_
    refine Gx.thenN ?_
    refine Gx.region ?_
    refine Gx.val rfl rfl rfl (val_add rfl rfl rfl (r := ((i + 1 : Nat) : Int)) (w64 (by omega) (by omega))) ?_
    refine Gx.val rfl rfl rfl (val_move rfl rfl) ?_
    refine Gx.done ?_
    refine Gx.thenN ?_
    exact Gx.round (i + 1) (by first | omega | (dsimp only; omega)) (by first | omega | (dsimp only; omega)) ((.cons rfl (.cons rfl (.cons rfl (.cons rfl (.cons rfl (.cons rfl (.cons rfl .nil)))))))) rfl
  · refine Gx.exit ?_
    refine Gx.thenE ?_
    refine Gx.thenE ?_
    refine Gx.blkE ?_
    refine Gx.thenN ?_
    refine Gx.seq ?_
    refine Gx.seq ?_
    refine Gx.region ?_
    refine Gx.val rfl rfl rfl (val_move rfl rfl) ?_
    refine Gx.val rfl rfl rfl (val_len rfl Try.underlying24 rfl (len_base hs12)) ?_
    refine Gx.val rfl rfl rfl (val_move rfl rfl) ?_
    refine Gx.done ?_
    refine Gx.thenN ?_
    refine Gx.block ?_
    refine Gx.loop (ι := Nat) (fun ξ => (ξ ≤ (stuckN n (l ++ [z])).length)) (fun ξ => [(0, .int .i64 ((n : Nat) : Int)), (1, nv), (5, sv1), (7, sv7), (65, sv1), (66, .int .i64 (((stuckN n (l ++ [z])).length : Nat) : Int)), (67, .int .i64 ((ξ : Nat) : Int))]) (fun ξ => []) (fun ξ => (stuckN n (l ++ [z])).length - ξ) 0 (by first | omega | (dsimp only; omega)) ((.cons rfl (.cons rfl (.cons rfl (.cons rfl (.cons rfl (.cons rfl (.cons rfl .nil)))))))) rfl ?_
    rintro j hj
    refine Gx.know (m' := [(0, .int .i64 ((n : Nat) : Int)), (1, nv), (5, sv1), (7, sv7), (65, sv1), (66, .int .i64 (((stuckN n (l ++ [z])).length : Nat) : Int)), (67, .int .i64 ((j : Nat) : Int))]) (.cons rfl (.cons rfl (.cons rfl (.cons rfl (.cons rfl (.cons rfl (.cons rfl .nil))))))) (Gx.norm (l' := []) rfl ?_)
    refine Gx.seq ?_
    refine Gx.region ?_
    refine Gx.val rfl rfl rfl (val_lss rfl rfl rfl) ?_
    refine Gx.done ?_
    refine Gx.thenN ?_
    refine Gx.seq ?_
    refine Gx.dec rfl (fun h16 => ?_) (fun h16 => ?_)
    · refine Gx.skip ?_
      refine Gx.thenN ?_
      refine Gx.seq ?_
      refine Gx.block ?_
      refine Gx.seq ?_
      refine Gx.region ?_
      obtain ⟨x17, hx17⟩ := get_of_lt (xs := (stuckN n (l ++ [z]))) (k := j) (by omega)
      refine Gx.val rfl rfl rfl (val_ixa rfl Try.underlying24 Try.ty3 rfl rfl (j := j) (rfl) (reach_base hs12 hx17)) ?_
      refine Gx.val rfl rfl rfl (val_load rfl Try.ty3 rfl rfl (cell_base (i := 0) hs12 hx17 rfl)) ?_
      refine Gx.val rfl rfl rfl (val_assign rfl rfl) ?_
      refine Gx.done ?_
      refine Gx.thenN ?_
      refine Gx.seq ?_
      refine Gx.region ?_
      refine Gx.val rfl rfl rfl (val_assign rfl rfl) ?_
      refine Gx.done ?_
      refine Gx.thenN ?_
      refine Gx.seq ?_
      refine Gx.seq ?_
      obtain ⟨y9, hy9, hyw⟩ := stuck_need (List.mem_of_getElem? hx17)
      obtain ⟨q9, hq9⟩ := List.getElem?_of_mem hy9
      have hq8 := (List.getElem?_eq_some_iff.1 hq9).1
      have hy0 := (hk.el y9 hy9).w0
      refine Gx.region ?_
      refine Gx.val rfl rfl rfl (val_move rfl rfl) ?_
      refine Gx.val rfl rfl rfl (val_len rfl Try.underlying22 rfl (len_base hs11)) ?_
      refine Gx.val rfl rfl rfl (val_move rfl rfl) ?_
      refine Gx.done ?_
      refine Gx.thenN ?_
      refine Gx.block ?_
      refine Gx.loop (ι := Nat × Bool) (fun ξ => (ξ.1 ≤ (l ++ [z]).length) ∧ (q9 < ξ.1 → ξ.2 = true)) (fun ξ => [(0, .int .i64 ((n : Nat) : Int)), (1, nv), (5, sv1), (7, sv7), (12, .int .i64 ((x17 : Nat) : Int)), (65, sv1), (66, .int .i64 (((stuckN n (l ++ [z])).length : Nat) : Int)), (67, .int .i64 ((j : Nat) : Int)), (71, nv), (72, .int .i64 (((l ++ [z]).length : Nat) : Int)), (73, .int .i64 ((ξ.1 : Nat) : Int)), (13, .bool ξ.2)]) (fun ξ => []) (fun ξ => (l ++ [z]).length - ξ.1) (0, false) ⟨by first | omega | (dsimp only; omega), fun h => absurd h (Nat.not_lt_zero _)⟩ ((.cons rfl (.cons rfl (.cons rfl (.cons rfl (.cons rfl (.cons rfl (.cons rfl (.cons rfl (.cons rfl (.cons rfl (.cons rfl (.cons rfl .nil))))))))))))) rfl ?_
      rintro ⟨k, b⟩ ⟨hk9, hb⟩
      dsimp only at hk9 hb
      refine Gx.know (m' := [(0, .int .i64 ((n : Nat) : Int)), (1, nv), (5, sv1), (7, sv7), (12, .int .i64 ((x17 : Nat) : Int)), (65, sv1), (66, .int .i64 (((stuckN n (l ++ [z])).length : Nat) : Int)), (67, .int .i64 ((j : Nat) : Int)), (71, nv), (72, .int .i64 (((l ++ [z]).length : Nat) : Int)), (73, .int .i64 ((k : Nat) : Int)), (13, .bool b)]) (.cons rfl (.cons rfl (.cons rfl (.cons rfl (.cons rfl (.cons rfl (.cons rfl (.cons rfl (.cons rfl (.cons rfl (.cons rfl (.cons rfl .nil)))))))))))) (Gx.norm (l' := []) rfl ?_)
      refine Gx.seq ?_
      refine Gx.region ?_
      refine Gx.val rfl rfl rfl (val_lss rfl rfl rfl) ?_
      refine Gx.done ?_
      refine Gx.thenN ?_
      refine Gx.seq ?_
      refine Gx.dec rfl (fun h18 => ?_) (fun h18 => ?_)
      · refine Gx.skip ?_
        refine Gx.thenN ?_
        refine Gx.seq ?_
        refine Gx.block ?_
        refine Gx.seq ?_
        refine Gx.region ?_
        obtain ⟨x19, hx19⟩ := get_of_lt (xs := (l ++ [z])) (k := k) (by omega)
        refine Gx.val rfl rfl rfl (val_ixa rfl Try.underlying22 Try.ty38 rfl rfl (j := k) (rfl) (reach_base hs11 hx19)) ?_
        refine Gx.val rfl rfl rfl (Val.cast (val_loadA rfl Try.ty38 rfl rfl rfl (cells_base hs11 hx19)) (v' := .agg #[.int .i64 x19.who, .bool x19.all, .slice x19.a x19.n x19.c]) rfl) ?_
        refine Gx.eff rfl rfl rfl (eff_alloc rfl Try.ty38 (vs := [.int .i64 0, .bool false, .slice none 0 0]) rfl) ?_
        rintro _ _ ⟨b20, rfl, rfl⟩
        refine Gx.eff0 rfl rfl (eff_store rfl Try.ty38 rfl rfl (us := [.int .i64 x19.who, .bool x19.all, .slice x19.a x19.n x19.c]) rfl rfl rfl (k := 0) rfl (rfl) (vs' := [.int .i64 x19.who, .bool x19.all, .slice x19.a x19.n x19.c]) (rfl) (l' := [Hp.rec_ b20 [.int .i64 x19.who, .bool x19.all, .slice x19.a x19.n x19.c]]) rfl) ?_
        rintro _ _ rfl
        refine Gx.done ?_
        refine Gx.thenN ?_
        refine Gx.region ?_
        refine Gx.val rfl rfl rfl (val_move rfl rfl) ?_
        refine Gx.val rfl rfl rfl (val_move rfl rfl) ?_
        refine Gx.casesB (t := 78) rfl (fun h21 => ?_) (fun h21 => ?_)
        · refine Gx.skipg rfl rfl rfl rfl rfl rfl ?_
          refine Gx.skipg rfl rfl rfl rfl rfl rfl ?_
          refine Gx.skipg rfl rfl rfl rfl rfl rfl ?_
          refine Gx.skipg rfl rfl rfl rfl rfl rfl ?_
          refine Gx.val rfl rfl rfl (val_pickT rfl rfl rfl) ?_
          refine Gx.val rfl rfl rfl (val_assign rfl rfl) ?_
          refine Gx.done ?_
          refine Gx.blkN ?_
          refine Gx.thenN ?_
          refine Gx.region ?_
          refine Gx.val rfl rfl rfl (val_add rfl rfl rfl (r := ((k + 1 : Nat) : Int)) (w64 (by omega) (by omega))) ?_
          refine Gx.val rfl rfl rfl (val_move rfl rfl) ?_
          refine Gx.done ?_
          refine Gx.thenN ?_
          refine Gx.drop 0 rfl ?_
          exact Gx.round (k + 1, true) ⟨by first | omega | (dsimp only; omega), fun hq => by
              rcases Nat.lt_or_eq_of_le (Nat.le_of_lt_succ hq) with u | u
              · first | rfl | (have h8 := hb u; simp_all)
              · subst u
                have e9 : x19 = y9 := Option.some.inj (hx19.symm.trans hq9)
                subst e9
                first | rfl | (exfalso; omega) | (exact decide_eq_true (by omega)) | (simp_all; omega)⟩ (by first | omega | (dsimp only; omega)) ((.cons rfl (.cons rfl (.cons rfl (.cons rfl (.cons rfl (.cons rfl (.cons rfl (.cons rfl (.cons rfl (.cons rfl (.cons rfl (.cons rfl .nil))))))))))))) rfl
        · refine Gx.valg rfl rfl rfl rfl rfl (Val.cast (val_fieldAddr rfl Try.underlying38 rfl Try.ty3 rfl rfl) (v' := ptr b20 0) rfl) ?_
          refine Gx.valg rfl rfl rfl rfl rfl (val_load rfl Try.ty3 rfl rfl (cell_rec (k := 0) rfl rfl)) ?_
          refine Gx.valg rfl rfl rfl rfl rfl (val_move rfl rfl) ?_
          refine Gx.valg rfl rfl rfl rfl rfl (val_eql rfl rfl rfl) ?_
          refine Gx.val rfl rfl rfl (val_pickF rfl rfl rfl) ?_
          refine Gx.val rfl rfl rfl (val_assign rfl rfl) ?_
          refine Gx.done ?_
          refine Gx.blkN ?_
          refine Gx.thenN ?_
          refine Gx.region ?_
          refine Gx.val rfl rfl rfl (val_add rfl rfl rfl (r := ((k + 1 : Nat) : Int)) (w64 (by omega) (by omega))) ?_
          refine Gx.val rfl rfl rfl (val_move rfl rfl) ?_
          refine Gx.done ?_
          refine Gx.thenN ?_
          refine Gx.drop 0 rfl ?_
          exact Gx.round (k + 1, decide (x19.who = ((x17 : Nat) : Int))) ⟨by first | omega | (dsimp only; omega), fun hq => by
              rcases Nat.lt_or_eq_of_le (Nat.le_of_lt_succ hq) with u | u
              · first | rfl | (have h8 := hb u; simp_all)
              · subst u
                have e9 : x19 = y9 := Option.some.inj (hx19.symm.trans hq9)
                subst e9
                first | rfl | (exfalso; omega) | (exact decide_eq_true (by omega)) | (simp_all; omega)⟩ (by first | omega | (dsimp only; omega)) ((.cons rfl (.cons rfl (.cons rfl (.cons rfl (.cons rfl (.cons rfl (.cons rfl (.cons rfl (.cons rfl (.cons rfl (.cons rfl (.cons rfl .nil))))))))))))) rfl
      · refine Gx.exit ?_
        refine Gx.thenE ?_
        refine Gx.thenE ?_
        refine Gx.blkE ?_
        refine Gx.thenN ?_
        refine Gx.seq ?_
        have hbt : b = true := hb (by omega)
        refine Gx.region ?_
        refine Gx.val rfl rfl rfl (val_move rfl rfl) ?_
        refine Gx.val rfl rfl rfl (val_not rfl rfl) ?_
        refine Gx.done ?_
        refine Gx.thenN ?_
        refine Gx.boolF rfl (by rw [hbt]; rfl) ?_
        refine Gx.skip ?_
        refine Gx.blkN ?_
        refine Gx.thenN ?_
        refine Gx.region ?_
        refine Gx.val rfl rfl rfl (val_add rfl rfl rfl (r := ((j + 1 : Nat) : Int)) (w64 (by omega) (by omega))) ?_
        refine Gx.val rfl rfl rfl (val_move rfl rfl) ?_
        refine Gx.done ?_
        refine Gx.thenN ?_
        exact Gx.round (j + 1) (by first | omega | (dsimp only; omega)) (by first | omega | (dsimp only; omega)) ((.cons rfl (.cons rfl (.cons rfl (.cons rfl (.cons rfl (.cons rfl (.cons rfl .nil)))))))) rfl
    · refine Gx.exit ?_
      refine Gx.thenE ?_
      refine Gx.thenE ?_
      refine Gx.blkE ?_
      refine Gx.thenN ?_
      refine Gx.seq ?_
      refine Gx.region ?_
      refine Gx.val rfl rfl rfl (val_move rfl rfl) ?_
      refine Gx.val rfl rfl rfl (val_move rfl rfl) ?_
      refine Gx.val rfl rfl rfl (val_len rfl Try.underlying22 rfl (len_base hs11)) ?_
      refine Gx.val rfl rfl rfl (val_sub rfl rfl rfl (r := ((l.length : Nat) : Int)) (w64 (by omega) (by omega))) ?_
      have hzl : (l ++ [z])[l.length]? = some z := by simp
      have hzm : z ∈ (l ++ [z]) := by simp
      have hz0 := (hk.el z hzm).w0
      have hfz := hN4.fr z hzm
      obtain ⟨zq, hzq⟩ : ∃ zq : Nat, z.who = (zq : Int) := ⟨z.who.toNat, by omega⟩
      have hzt : z.who.toNat = zq := by omega
      refine Gx.val rfl rfl rfl (val_ixa rfl Try.underlying22 Try.ty38 rfl rfl (j := l.length) (rfl) (reach_base hs11 hzl)) ?_
      refine Gx.val rfl rfl rfl (Val.cast (val_loadA rfl Try.ty38 rfl rfl rfl (cells_base hs11 hzl)) (v' := .agg #[.int .i64 z.who, .bool z.all, .slice z.a z.n z.c]) rfl) ?_
      refine Gx.eff rfl rfl rfl (eff_alloc rfl Try.ty38 (vs := [.int .i64 0, .bool false, .slice none 0 0]) rfl) ?_
      rintro _ _ ⟨b22, rfl, rfl⟩
      refine Gx.eff0 rfl rfl (eff_store rfl Try.ty38 rfl rfl (us := [.int .i64 z.who, .bool z.all, .slice z.a z.n z.c]) rfl rfl rfl (k := 0) rfl (rfl) (vs' := [.int .i64 z.who, .bool z.all, .slice z.a z.n z.c]) (rfl) (l' := [Hp.rec_ b22 [.int .i64 z.who, .bool z.all, .slice z.a z.n z.c]]) rfl) ?_
      rintro _ _ rfl
      refine Gx.done ?_
      refine Gx.thenN ?_
      refine Gx.seq ?_
      refine Gx.norm (l' := [Hp.rec_ b22 [.int .i64 ((zq : Nat) : Int), .bool z.all, .slice z.a z.n z.c]]) (by rw [hzq] <;> rfl) ?_
      have hm1 : posI (stuckN n l) zq < 0 := by
        have h8 := more_last hk
        rw [hzt] at h8
        exact Int.not_le.1 fun h => h8 (posI_ge.1 h)
      have hm2 : z.fr = [] → z.all = false → 0 ≤ posI (stuckN n (l ++ [z])) zq := fun e1 e2 => posI_ge.2 (by have h8 := empty_stuck hk hzm e1 e2; rwa [hzt] at h8)
      refine Gx.region ?_
      refine Gx.val rfl rfl rfl (val_move rfl rfl) ?_
      refine Gx.val rfl rfl rfl (Val.cast (val_fieldAddr rfl Try.underlying38 rfl Try.ty3 rfl rfl) (v' := ptr b22 0) rfl) ?_
      refine Gx.val rfl rfl rfl (val_load rfl Try.ty3 rfl rfl (cell_rec (k := 0) rfl rfl)) ?_
      refine Gx.val rfl rfl rfl (val_call (vs := [sv7, .int .i64 ((zq : Nat) : Int)]) rfl Try.fn14 rfl (fun w H => pos_any (hsv7.below H.below))) ?_
      refine Gx.val rfl rfl rfl (val_lss rfl rfl rfl) ?_
      refine Gx.val rfl rfl rfl (val_move rfl rfl) ?_
      refine Gx.slot (t := 99) (v := .bool true) (look_decT rfl (by exact hm1)) ?_
      refine Gx.valg rfl rfl rfl rfl rfl (Val.cast (val_fieldAddr rfl Try.underlying38 rfl Try.ty24 rfl rfl) (v' := ptr b22 2) rfl) ?_
      refine Gx.valg rfl rfl rfl rfl rfl (val_load rfl Try.ty24 rfl rfl (cell_rec (k := 0) rfl rfl)) ?_
      refine Gx.valg rfl rfl rfl rfl rfl (val_len rfl Try.underlying24 rfl (len_base hfz)) ?_
      refine Gx.valg rfl rfl rfl rfl rfl (val_gtr rfl rfl rfl) ?_
      refine Gx.valg rfl rfl rfl rfl rfl (val_move rfl rfl) ?_
      refine Gx.cases (t := 104) rfl (fun h23 => ?_) (fun h23 => ?_)
      · refine Gx.skipg rfl rfl rfl rfl rfl rfl ?_
        refine Gx.skipg rfl rfl rfl rfl rfl rfl ?_
        refine Gx.valg rfl rfl rfl rfl rfl (val_pickT rfl rfl rfl) ?_
        refine Gx.valg rfl rfl rfl rfl rfl (val_move rfl rfl) ?_
        refine Gx.skipg rfl rfl rfl rfl rfl rfl ?_
        refine Gx.skipg rfl rfl rfl rfl rfl rfl ?_
        refine Gx.skipg rfl rfl rfl rfl rfl rfl ?_
        refine Gx.skipg rfl rfl rfl rfl rfl rfl ?_
        refine Gx.skipg rfl rfl rfl rfl rfl rfl ?_
        refine Gx.valg rfl rfl rfl rfl rfl (val_pickT rfl rfl rfl) ?_
        refine Gx.val rfl rfl rfl (val_pickT rfl rfl rfl) ?_
        refine Gx.val rfl rfl rfl (val_assign rfl rfl) ?_
        refine Gx.done ?_
        refine Gx.thenN ?_
        refine Gx.ret ?_
        refine Gx.ret1B hW10 Try.results5 rfl ?_
        rfl
      · refine Gx.valg rfl rfl rfl rfl rfl (Val.cast (val_fieldAddr rfl Try.underlying38 rfl Try.ty4 rfl rfl) (v' := ptr b22 1) rfl) ?_
        refine Gx.valg rfl rfl rfl rfl rfl (val_load rfl Try.ty4 rfl rfl (cell_rec (k := 0) rfl rfl)) ?_
        refine Gx.valg rfl rfl rfl rfl rfl (val_pickF rfl rfl rfl) ?_
        refine Gx.valg rfl rfl rfl rfl rfl (val_move rfl rfl) ?_
        refine Gx.casesB (t := 108) rfl (fun h24 => ?_) (fun h24 => ?_)
        · refine Gx.skipg rfl rfl rfl rfl rfl rfl ?_
          refine Gx.skipg rfl rfl rfl rfl rfl rfl ?_
          refine Gx.skipg rfl rfl rfl rfl rfl rfl ?_
          refine Gx.skipg rfl rfl rfl rfl rfl rfl ?_
          refine Gx.skipg rfl rfl rfl rfl rfl rfl ?_
          refine Gx.valg rfl rfl rfl rfl rfl (val_pickT rfl rfl rfl) ?_
          refine Gx.val rfl rfl rfl (val_pickT rfl rfl rfl) ?_
          refine Gx.val rfl rfl rfl (val_assign rfl rfl) ?_
          refine Gx.done ?_
          refine Gx.thenN ?_
          refine Gx.ret ?_
          refine Gx.ret1B hW10 Try.results5 rfl ?_
          rfl
        · refine Gx.valg rfl rfl rfl rfl rfl (val_move rfl rfl) ?_
          refine Gx.valg rfl rfl rfl rfl rfl (Val.cast (val_fieldAddr rfl Try.underlying38 rfl Try.ty3 rfl rfl) (v' := ptr b22 0) rfl) ?_
          refine Gx.valg rfl rfl rfl rfl rfl (val_load rfl Try.ty3 rfl rfl (cell_rec (k := 0) rfl rfl)) ?_
          refine Gx.valg rfl rfl rfl rfl rfl (val_call (vs := [sv1, .int .i64 ((zq : Nat) : Int)]) rfl Try.fn14 rfl (fun w H => pos_any (hs12.below H.below))) ?_
          refine Gx.valg rfl rfl rfl rfl rfl (val_geq rfl rfl rfl) ?_
          refine Gx.valg rfl rfl rfl rfl rfl (val_pickF rfl rfl rfl) ?_
          refine Gx.val rfl rfl rfl (val_pickT rfl rfl rfl) ?_
          refine Gx.val rfl rfl rfl (val_assign rfl rfl) ?_
          refine Gx.done ?_
          refine Gx.thenN ?_
          refine Gx.ret ?_
          refine Gx.ret1B hW10 Try.results5 rfl ?_
          exact congrArg Value.bool (by first | (simp_all; done) | (have e1 : z.fr = [] := List.length_eq_zero_iff.1 (by omega); simp_all))

theorem more_any {W : World} {n : Int} {nv : Value} {l : List Nd} (h : NdS W nv l) : Calls Try.prog 5 #[.int .i64 n, nv] W fun e w' => e = .returned (.bool true) ∧ Below W.heap.size W w' := by
  by_cases hk : OkN n l
  · obtain ⟨n, rfl⟩ : ∃ q : Nat, n = (q : Int) := ⟨n.toNat, by have := hk.n1; omega⟩
    rcases List.eq_nil_or_concat l with rfl | ⟨l', z, rfl⟩
    · exact more_nil h hk
    · rw [List.concat_eq_append] at *; exact more_yes h hk
  · exact more_no h hk
end Go.Proofs.Ytplcflifofomjaa
