/- What a read tells was written. The walk. No condition. -/
import Derived.Test.YtjiefamdpbnngaaA7
import Derived.Test.YtjiefamdpbnngaaM1
namespace Go.Proofs.Ytjiefamdpbnngaa
open Go.RowKit
set_option linter.unusedVariables false
set_option linter.unusedSimpArgs false
set_option maxRecDepth 100000

theorem from_no {W : World} {n : Int} {sv : Value} {cs : List Cl} (hs : SlS FC 6 W sv cs) (hbad : n < 1 ∨ 5 < n ∨ 120 < (cs.length : Int)) :
    Calls Try.prog 6 #[.int .i64 n, sv] W fun e w' => e = .returned (.bool true) ∧ Below W.heap.size W w' := by
  refine calls_pure (Gx.enter (l := []) Try.func6 rfl Try.ntmps6 rfl (Sat.start W) ?_)
  refine Gx.know (m' := [(0, .int .i64 n), (1, sv)]) (.cons rfl (.cons rfl .nil)) ?_
  refine Gx.seq ?_
  refine Gx.region ?_
  refine Gx.val rfl rfl rfl (val_assign rfl rfl) ?_
  refine Gx.done ?_
  refine Gx.thenN ?_
  refine Gx.seq ?_
  refine Gx.region ?_
  refine Gx.val rfl rfl rfl (val_move rfl rfl) ?_
  refine Gx.val rfl rfl rfl (val_move rfl rfl) ?_
  refine Gx.val rfl rfl rfl (val_call (vs := [.int .i64 n, sv]) rfl Try.fn8 rfl (fun w H => play_no (hs.below H.below) (by omega))) ?_
  refine Gx.val rfl rfl rfl (val_move rfl rfl) ?_
  refine Gx.val rfl rfl rfl (val_extract rfl rfl rfl) ?_
  refine Gx.val rfl rfl rfl (val_extract rfl rfl rfl) ?_
  refine Gx.eff rfl rfl rfl (eff_alloc rfl Try.ty28 (vs := [.slice none 0 0, .slice none 0 0]) rfl) ?_
  rintro _ _ ⟨b1, rfl, rfl⟩
  refine Gx.eff0 rfl rfl (eff_store rfl Try.ty28 rfl rfl (us := [.slice none 0 0, .slice none 0 0]) rfl rfl rfl (k := 0) rfl (rfl) (vs' := [.slice none 0 0, .slice none 0 0]) (rfl) (l' := [Hp.rec_ b1 [.slice none 0 0, .slice none 0 0]]) rfl) ?_
  rintro _ _ rfl
  refine Gx.val rfl rfl rfl (val_assign rfl rfl) ?_
  refine Gx.done ?_
  refine Gx.thenN ?_
  refine Gx.seq ?_
  refine Gx.seq ?_
  refine Gx.region ?_
  refine Gx.val rfl rfl rfl (val_move rfl rfl) ?_
  refine Gx.val rfl rfl rfl (Val.cast (val_neq rfl rfl rfl) (v' := .bool true) rfl) ?_
  refine Gx.done ?_
  refine Gx.thenN ?_
  refine Gx.t rfl ?_
  refine Gx.seq ?_
  refine Gx.region ?_
  refine Gx.val rfl rfl rfl (Val.cast (val_fieldAddr rfl Try.underlying28 rfl Try.ty25 rfl rfl) (v' := ptr b1 0) rfl) ?_
  refine Gx.val rfl rfl rfl (val_load rfl Try.ty25 rfl rfl (cell_rec (k := 0) rfl rfl)) ?_
  refine Gx.val rfl rfl rfl (val_len rfl Try.underlying25 rfl len_lit) ?_
  refine Gx.val rfl rfl rfl (Val.cast (val_eql rfl rfl rfl) (v' := .bool true) rfl) ?_
  refine Gx.val rfl rfl rfl (val_assign rfl rfl) ?_
  refine Gx.done ?_
  refine Gx.thenN ?_
  refine Gx.ret ?_
  refine Gx.thenR ?_
  refine Gx.ret1 Try.results6 rfl ?_
  rfl

theorem from_yes {W : World} {n : Nat} {sv : Value} {cs : List Cl} (h1n : 1 ≤ n) (h5n : n ≤ 5) (hcl : cs.length ≤ 120) (hs : SlS FC 6 W sv cs) :
    Calls Try.prog 6 #[.int .i64 ((n : Nat) : Int), sv] W fun e w' => e = .returned (.bool true) ∧ Below W.heap.size W w' := by
  have inv := (InvR.zero n).run h1n cs
  have hF := FromI.run h1n cs (InvR.zero n) (FromI.zero n)
  have hcnt := inv.cnt
  refine calls_pure (Gx.enter (l := []) Try.func6 rfl Try.ntmps6 rfl (Sat.start W) ?_)
  refine Gx.know (m' := [(0, .int .i64 ((n : Nat) : Int)), (1, sv)]) (.cons rfl (.cons rfl .nil)) ?_
  refine Gx.seq ?_
  refine Gx.region ?_
  refine Gx.val rfl rfl rfl (val_assign rfl rfl) ?_
  refine Gx.done ?_
  refine Gx.thenN ?_
  refine Gx.seq ?_
  refine Gx.region ?_
  refine Gx.val rfl rfl rfl (val_move rfl rfl) ?_
  refine Gx.val rfl rfl rfl (val_move rfl rfl) ?_
  refine Gx.callB rfl rfl rfl (vs := [.int .i64 ((n : Nat) : Int), sv]) rfl Try.fn8 rfl (R := fun v w' => ∃ cv pv, v = .tuple #[.agg #[cv, pv], .int .i64 0] ∧ SlS FZ 1 w' cv (codesR (rs0 n) 0 cs) ∧ SlS FO 6 w' pv (stR (rs0 n) 0 cs).ops) (fun w H => play_ok h1n h5n (hs.below H.below) (by omega)) ?_
  rintro _ W3 ⟨cv1, pv2, rfl, hcv1, hpv2⟩ H4
  have hW5 := H4.below
  have hs6 := hs.below H4.below
  have hclcv1 : (codesR (rs0 n) 0 cs).length = (cs).length := codesR_len ..
  obtain ⟨a7, m8, c9, rfl⟩ := hcv1.isS
  obtain ⟨a10, m11, c12, rfl⟩ := hpv2.isS
  refine Gx.val rfl rfl rfl (val_move rfl rfl) ?_
  refine Gx.val rfl rfl rfl (val_extract rfl rfl rfl) ?_
  refine Gx.val rfl rfl rfl (val_extract rfl rfl rfl) ?_
  refine Gx.eff rfl rfl rfl (eff_alloc rfl Try.ty28 (vs := [.slice none 0 0, .slice none 0 0]) rfl) ?_
  rintro _ _ ⟨b13, rfl, rfl⟩
  refine Gx.eff0 rfl rfl (eff_store rfl Try.ty28 rfl rfl (us := [.slice a7 m8 c9, .slice a10 m11 c12]) rfl rfl rfl (k := 0) rfl (rfl) (vs' := [.slice a7 m8 c9, .slice a10 m11 c12]) (rfl) (l' := [Hp.rec_ b13 [.slice a7 m8 c9, .slice a10 m11 c12]]) rfl) ?_
  rintro _ _ rfl
  refine Gx.val rfl rfl rfl (val_assign rfl rfl) ?_
  refine Gx.done ?_
  refine Gx.thenN ?_
  refine Gx.seq ?_
  refine Gx.seq ?_
  refine Gx.region ?_
  refine Gx.val rfl rfl rfl (val_move rfl rfl) ?_
  refine Gx.val rfl rfl rfl (Val.cast (val_neq rfl rfl rfl) (v' := .bool false) rfl) ?_
  refine Gx.done ?_
  refine Gx.thenN ?_
  refine Gx.f rfl ?_
  refine Gx.skip ?_
  refine Gx.thenN ?_
  refine Gx.seq ?_
  refine Gx.seq ?_
  refine Gx.region ?_
  refine Gx.val rfl rfl rfl (Val.cast (val_fieldAddr rfl Try.underlying28 rfl Try.ty25 rfl rfl) (v' := ptr b13 0) rfl) ?_
  refine Gx.val rfl rfl rfl (val_load rfl Try.ty25 rfl rfl (cell_rec (k := 0) rfl rfl)) ?_
  refine Gx.val rfl rfl rfl (val_len rfl Try.underlying25 rfl (len_base hcv1)) ?_
  refine Gx.val rfl rfl rfl (val_move rfl rfl) ?_
  refine Gx.val rfl rfl rfl (val_len rfl Try.underlying22 rfl (len_base hs6)) ?_
  refine Gx.val rfl rfl rfl (val_neq rfl rfl rfl) ?_
  refine Gx.done ?_
  refine Gx.thenN ?_
  refine Gx.decF rfl (by omega) ?_
  refine Gx.skip ?_
  refine Gx.thenN ?_
  refine Gx.seq ?_
  refine Gx.seq ?_
  refine Gx.region ?_
  refine Gx.val rfl rfl rfl (Val.cast (val_fieldAddr rfl Try.underlying28 rfl Try.ty26 rfl rfl) (v' := ptr b13 1) rfl) ?_
  refine Gx.val rfl rfl rfl (val_load rfl Try.ty26 rfl rfl (cell_rec (k := 0) rfl rfl)) ?_
  refine Gx.val rfl rfl rfl (val_len rfl Try.underlying26 rfl (len_base hpv2)) ?_
  refine Gx.val rfl rfl rfl (val_move rfl rfl) ?_
  refine Gx.done ?_
  refine Gx.thenN ?_
  refine Gx.block ?_
  refine Gx.loop (ι := Nat) (fun ξ => (ξ ≤ (stR (rs0 n) 0 cs).ops.length)) (fun ξ => [(5, ptr b13 0), (31, .slice a10 m11 c12), (32, .int .i64 ((((stR (rs0 n) 0 cs).ops).length : Nat) : Int)), (33, .int .i64 ((ξ : Nat) : Int))]) (fun ξ => [Hp.rec_ b13 [.slice a7 m8 c9, .slice a10 m11 c12]]) (fun ξ => (stR (rs0 n) 0 cs).ops.length - ξ) 0 (by first | omega | (dsimp only; omega)) ((.cons rfl (.cons rfl (.cons rfl (.cons rfl .nil))))) rfl ?_
  rintro j hj
  refine Gx.know (m' := [(5, ptr b13 0), (31, .slice a10 m11 c12), (32, .int .i64 ((((stR (rs0 n) 0 cs).ops).length : Nat) : Int)), (33, .int .i64 ((j : Nat) : Int))]) (.cons rfl (.cons rfl (.cons rfl (.cons rfl .nil)))) (Gx.norm (l' := [Hp.rec_ b13 [.slice a7 m8 c9, .slice a10 m11 c12]]) rfl ?_)
  refine Gx.seq ?_
  refine Gx.region ?_
  refine Gx.val rfl rfl rfl (val_lss rfl rfl rfl) ?_
  refine Gx.done ?_
  refine Gx.thenN ?_
  refine Gx.seq ?_
  refine Gx.dec rfl (fun h14 => ?_) (fun h14 => ?_)
  · refine Gx.skip ?_
    refine Gx.thenN ?_
    refine Gx.seq ?_
    refine Gx.block ?_
    refine Gx.seq ?_
    refine Gx.region ?_
    obtain ⟨x15, hx15⟩ := get_of_lt (xs := (stR (rs0 n) 0 cs).ops) (k := j) (by omega)
    refine Gx.val rfl rfl rfl (val_ixa rfl Try.underlying26 Try.ty33 rfl rfl (j := j) (rfl) (reach_base hpv2 hx15)) ?_
    refine Gx.val rfl rfl rfl (Val.cast (val_loadA rfl Try.ty33 rfl rfl rfl (cells_base hpv2 hx15)) (v' := .agg #[.int .i64 ((x15.who : Nat) : Int), .int .i64 0, .bool x15.wr, .int .i64 x15.val, .int .i64 ((x15.frm : Nat) : Int), .int .i64 x15.to]) rfl) ?_
    refine Gx.eff rfl rfl rfl (eff_alloc rfl Try.ty33 (vs := [.int .i64 0, .int .i64 0, .bool false, .int .i64 0, .int .i64 0, .int .i64 0]) rfl) ?_
    rintro _ _ ⟨b16, rfl, rfl⟩
    refine Gx.eff0 rfl rfl (eff_store rfl Try.ty33 rfl rfl (us := [.int .i64 ((x15.who : Nat) : Int), .int .i64 0, .bool x15.wr, .int .i64 x15.val, .int .i64 ((x15.frm : Nat) : Int), .int .i64 x15.to]) rfl rfl rfl (k := 0) rfl (rfl) (vs' := [.int .i64 ((x15.who : Nat) : Int), .int .i64 0, .bool x15.wr, .int .i64 x15.val, .int .i64 ((x15.frm : Nat) : Int), .int .i64 x15.to]) (rfl) (l' := [Hp.rec_ b16 [.int .i64 ((x15.who : Nat) : Int), .int .i64 0, .bool x15.wr, .int .i64 x15.val, .int .i64 ((x15.frm : Nat) : Int), .int .i64 x15.to], Hp.rec_ b13 [.slice a7 m8 c9, .slice a10 m11 c12]]) rfl) ?_
    rintro _ _ rfl
    refine Gx.done ?_
    refine Gx.thenN ?_
    refine Gx.seq ?_
    refine Gx.seq ?_
    refine Gx.region ?_
    refine Gx.val rfl rfl rfl (Val.cast (val_fieldAddr rfl Try.underlying33 rfl Try.ty4 rfl rfl) (v' := ptr b16 2) rfl) ?_
    refine Gx.val rfl rfl rfl (val_load rfl Try.ty4 rfl rfl (cell_rec (k := 0) rfl rfl)) ?_
    refine Gx.val rfl rfl rfl (val_move rfl rfl) ?_
    refine Gx.casesB (t := 39) rfl (fun h17 => ?_) (fun h17 => ?_)
    · refine Gx.skipg rfl rfl rfl rfl rfl rfl ?_
      refine Gx.skipg rfl rfl rfl rfl rfl rfl ?_
      refine Gx.skipg rfl rfl rfl rfl rfl rfl ?_
      refine Gx.val rfl rfl rfl (val_pickT rfl rfl rfl) ?_
      refine Gx.done ?_
      refine Gx.thenN ?_
      refine Gx.t rfl ?_
      refine Gx.exit ?_
      refine Gx.thenE ?_
      refine Gx.blkE ?_
      refine Gx.thenN ?_
      refine Gx.region ?_
      refine Gx.val rfl rfl rfl (val_add rfl rfl rfl (r := ((j + 1 : Nat) : Int)) (w64 (by omega) (by omega))) ?_
      refine Gx.val rfl rfl rfl (val_move rfl rfl) ?_
      refine Gx.done ?_
      refine Gx.thenN ?_
      refine Gx.drop 0 rfl ?_
      exact Gx.round (j + 1) (by first | omega | (dsimp only; omega)) (by first | omega | (dsimp only; omega)) ((.cons rfl (.cons rfl (.cons rfl (.cons rfl .nil))))) rfl
    · refine Gx.valg rfl rfl rfl rfl rfl (Val.cast (val_fieldAddr rfl Try.underlying33 rfl Try.ty3 rfl rfl) (v' := ptr b16 5) rfl) ?_
      refine Gx.valg rfl rfl rfl rfl rfl (val_load rfl Try.ty3 rfl rfl (cell_rec (k := 0) rfl rfl)) ?_
      refine Gx.valg rfl rfl rfl rfl rfl (val_lss rfl rfl rfl) ?_
      refine Gx.val rfl rfl rfl (val_pickF rfl rfl rfl) ?_
      refine Gx.done ?_
      refine Gx.thenN ?_
      refine Gx.dec rfl (fun h18 => ?_) (fun h18 => ?_)
      · refine Gx.exit ?_
        refine Gx.thenE ?_
        refine Gx.blkE ?_
        refine Gx.thenN ?_
        refine Gx.region ?_
        refine Gx.val rfl rfl rfl (val_add rfl rfl rfl (r := ((j + 1 : Nat) : Int)) (w64 (by omega) (by omega))) ?_
        refine Gx.val rfl rfl rfl (val_move rfl rfl) ?_
        refine Gx.done ?_
        refine Gx.thenN ?_
        refine Gx.drop 0 rfl ?_
        exact Gx.round (j + 1) (by first | omega | (dsimp only; omega)) (by first | omega | (dsimp only; omega)) ((.cons rfl (.cons rfl (.cons rfl (.cons rfl .nil))))) rfl
      · refine Gx.skip ?_
        refine Gx.thenN ?_
        refine Gx.seq ?_
        refine Gx.region ?_
        refine Gx.val rfl rfl rfl (Val.cast (val_fieldAddr rfl Try.underlying33 rfl Try.ty2 rfl rfl) (v' := ptr b16 3) rfl) ?_
        refine Gx.val rfl rfl rfl (val_load rfl Try.ty2 rfl rfl (cell_rec (k := 0) rfl rfl)) ?_
        refine Gx.val rfl rfl rfl (val_eql rfl rfl rfl) ?_
        refine Gx.val rfl rfl rfl (val_assign rfl rfl) ?_
        refine Gx.done ?_
        refine Gx.thenN ?_
        refine Gx.seq ?_
        refine Gx.seq ?_
        have hwit := hF.done j x15 x15.to.toNat hx15 h17 (by omega)
        refine Gx.region ?_
        refine Gx.val rfl rfl rfl (Val.cast (val_fieldAddr rfl Try.underlying28 rfl Try.ty26 rfl rfl) (v' := ptr b13 1) rfl) ?_
        refine Gx.val rfl rfl rfl (val_load rfl Try.ty26 rfl rfl (cell_rec (k := 1) rfl rfl)) ?_
        refine Gx.val rfl rfl rfl (val_len rfl Try.underlying26 rfl (len_base hpv2)) ?_
        refine Gx.val rfl rfl rfl (val_move rfl rfl) ?_
        refine Gx.done ?_
        refine Gx.thenN ?_
        refine Gx.block ?_
        refine Gx.front 0 rfl ?_
        refine Gx.front 1 rfl ?_
        refine Gx.loop (ι := Nat × Bool) (fun ξ => (ξ.1 ≤ (stR (rs0 n) 0 cs).ops.length) ∧ (x15.val = 0 → ξ.2 = true) ∧ (∀ (r : Nat) (y : Oq), r < ξ.1 → (stR (rs0 n) 0 cs).ops[r]? = some y → y.wr = true → y.val = x15.val → ((y.frm : Nat) : Int) < x15.to → ξ.2 = true)) (fun ξ => [(5, ptr b13 0), (8, ptr b16 0), (9, .bool ξ.2), (31, .slice a10 m11 c12), (32, .int .i64 ((((stR (rs0 n) 0 cs).ops).length : Nat) : Int)), (33, .int .i64 ((j : Nat) : Int)), (48, .slice a10 m11 c12), (49, .int .i64 ((((stR (rs0 n) 0 cs).ops).length : Nat) : Int)), (50, .int .i64 ((ξ.1 : Nat) : Int))]) (fun ξ => [Hp.rec_ b13 [.slice a7 m8 c9, .slice a10 m11 c12], Hp.rec_ b16 [.int .i64 ((x15.who : Nat) : Int), .int .i64 0, .bool x15.wr, .int .i64 x15.val, .int .i64 ((x15.frm : Nat) : Int), .int .i64 x15.to]]) (fun ξ => (stR (rs0 n) 0 cs).ops.length - ξ.1) (0, (decide (x15.val = 0))) ⟨by first | omega | (dsimp only; omega), fun h => decide_eq_true h, fun r y h => by omega⟩ ((.cons rfl (.cons rfl (.cons rfl (.cons rfl (.cons rfl (.cons rfl (.cons rfl (.cons rfl (.cons rfl .nil)))))))))) rfl ?_
        rintro ⟨q, b⟩ ⟨hq, h0, hb⟩
        dsimp only at hq h0 hb
        refine Gx.know (m' := [(5, ptr b13 0), (8, ptr b16 0), (9, .bool b), (31, .slice a10 m11 c12), (32, .int .i64 ((((stR (rs0 n) 0 cs).ops).length : Nat) : Int)), (33, .int .i64 ((j : Nat) : Int)), (48, .slice a10 m11 c12), (49, .int .i64 ((((stR (rs0 n) 0 cs).ops).length : Nat) : Int)), (50, .int .i64 ((q : Nat) : Int))]) (.cons rfl (.cons rfl (.cons rfl (.cons rfl (.cons rfl (.cons rfl (.cons rfl (.cons rfl (.cons rfl .nil))))))))) (Gx.norm (l' := [Hp.rec_ b13 [.slice a7 m8 c9, .slice a10 m11 c12], Hp.rec_ b16 [.int .i64 ((x15.who : Nat) : Int), .int .i64 0, .bool x15.wr, .int .i64 x15.val, .int .i64 ((x15.frm : Nat) : Int), .int .i64 x15.to]]) rfl ?_)
        refine Gx.seq ?_
        refine Gx.region ?_
        refine Gx.val rfl rfl rfl (val_lss rfl rfl rfl) ?_
        refine Gx.done ?_
        refine Gx.thenN ?_
        refine Gx.seq ?_
        refine Gx.dec rfl (fun h19 => ?_) (fun h19 => ?_)
        · refine Gx.skip ?_
          refine Gx.thenN ?_
          refine Gx.seq ?_
          refine Gx.block ?_
          refine Gx.seq ?_
          refine Gx.region ?_
          obtain ⟨x20, hx20⟩ := get_of_lt (xs := (stR (rs0 n) 0 cs).ops) (k := q) (by omega)
          refine Gx.val rfl rfl rfl (val_ixa rfl Try.underlying26 Try.ty33 rfl rfl (j := q) (rfl) (reach_base hpv2 hx20)) ?_
          refine Gx.val rfl rfl rfl (Val.cast (val_loadA rfl Try.ty33 rfl rfl rfl (cells_base hpv2 hx20)) (v' := .agg #[.int .i64 ((x20.who : Nat) : Int), .int .i64 0, .bool x20.wr, .int .i64 x20.val, .int .i64 ((x20.frm : Nat) : Int), .int .i64 x20.to]) rfl) ?_
          refine Gx.eff rfl rfl rfl (eff_alloc rfl Try.ty33 (vs := [.int .i64 0, .int .i64 0, .bool false, .int .i64 0, .int .i64 0, .int .i64 0]) rfl) ?_
          rintro _ _ ⟨b21, rfl, rfl⟩
          refine Gx.eff0 rfl rfl (eff_store rfl Try.ty33 rfl rfl (us := [.int .i64 ((x20.who : Nat) : Int), .int .i64 0, .bool x20.wr, .int .i64 x20.val, .int .i64 ((x20.frm : Nat) : Int), .int .i64 x20.to]) rfl rfl rfl (k := 0) rfl (rfl) (vs' := [.int .i64 ((x20.who : Nat) : Int), .int .i64 0, .bool x20.wr, .int .i64 x20.val, .int .i64 ((x20.frm : Nat) : Int), .int .i64 x20.to]) (rfl) (l' := [Hp.rec_ b21 [.int .i64 ((x20.who : Nat) : Int), .int .i64 0, .bool x20.wr, .int .i64 x20.val, .int .i64 ((x20.frm : Nat) : Int), .int .i64 x20.to], Hp.rec_ b13 [.slice a7 m8 c9, .slice a10 m11 c12], Hp.rec_ b16 [.int .i64 ((x15.who : Nat) : Int), .int .i64 0, .bool x15.wr, .int .i64 x15.val, .int .i64 ((x15.frm : Nat) : Int), .int .i64 x15.to]]) rfl) ?_
          rintro _ _ rfl
          refine Gx.done ?_
          refine Gx.thenN ?_
          refine Gx.region ?_
          refine Gx.val rfl rfl rfl (val_move rfl rfl) ?_
          refine Gx.val rfl rfl rfl (val_move rfl rfl) ?_
          refine Gx.casesB (t := 55) rfl (fun h22 => ?_) (fun h22 => ?_)
          · refine Gx.skipg rfl rfl rfl rfl rfl rfl ?_
            refine Gx.skipg rfl rfl rfl rfl rfl rfl ?_
            refine Gx.skipg rfl rfl rfl rfl rfl rfl ?_
            refine Gx.skipu rfl rfl rfl rfl rfl ?_
            refine Gx.skipu rfl rfl rfl rfl rfl ?_
            refine Gx.skipu rfl rfl rfl rfl rfl ?_
            refine Gx.skipu rfl rfl rfl rfl rfl ?_
            refine Gx.skipu rfl rfl rfl rfl rfl ?_
            refine Gx.skipg rfl rfl rfl rfl rfl rfl ?_
            refine Gx.skipg rfl rfl rfl rfl rfl rfl ?_
            refine Gx.skipu rfl rfl rfl rfl rfl ?_
            refine Gx.skipu rfl rfl rfl rfl rfl ?_
            refine Gx.skipu rfl rfl rfl rfl rfl ?_
            refine Gx.skipu rfl rfl rfl rfl rfl ?_
            refine Gx.skipu rfl rfl rfl rfl rfl ?_
            refine Gx.skipg rfl rfl rfl rfl rfl rfl ?_
            refine Gx.val rfl rfl rfl (val_pickT rfl rfl rfl) ?_
            refine Gx.val rfl rfl rfl (val_assign rfl rfl) ?_
            refine Gx.done ?_
            refine Gx.blkN ?_
            refine Gx.thenN ?_
            refine Gx.region ?_
            refine Gx.val rfl rfl rfl (val_add rfl rfl rfl (r := ((q + 1 : Nat) : Int)) (w64 (by omega) (by omega))) ?_
            refine Gx.val rfl rfl rfl (val_move rfl rfl) ?_
            refine Gx.done ?_
            refine Gx.thenN ?_
            refine Gx.drop 0 rfl ?_
            exact Gx.round (q + 1, true) ⟨by first | omega | (dsimp only; omega), fun h => by have := h0 h; first | rfl | simp_all, fun r y9 hr hy9 g1 g2 g3 => by
                  rcases Nat.lt_or_eq_of_le (Nat.le_of_lt_succ hr) with h9 | rfl
                  · have := hb r y9 h9 hy9 g1 g2 g3; first | rfl | simp_all
                  · cases hx20.symm.trans hy9; first | rfl | (exact decide_eq_true g3) | (simp_all; done) | (exfalso; simp_all)⟩ (by first | omega | (dsimp only; omega)) ((.cons rfl (.cons rfl (.cons rfl (.cons rfl (.cons rfl (.cons rfl (.cons rfl (.cons rfl (.cons rfl .nil)))))))))) rfl
          · refine Gx.valg rfl rfl rfl rfl rfl (Val.cast (val_fieldAddr rfl Try.underlying33 rfl Try.ty4 rfl rfl) (v' := ptr b21 2) rfl) ?_
            refine Gx.valg rfl rfl rfl rfl rfl (val_load rfl Try.ty4 rfl rfl (cell_rec (k := 0) rfl rfl)) ?_
            refine Gx.valg rfl rfl rfl rfl rfl (val_move rfl rfl) ?_
            refine Gx.casesB (t := 58) rfl (fun h23 => ?_) (fun h23 => ?_)
            · refine Gx.valg rfl rfl rfl rfl rfl (Val.cast (val_fieldAddr rfl Try.underlying33 rfl Try.ty2 rfl rfl) (v' := ptr b21 3) rfl) ?_
              refine Gx.valg rfl rfl rfl rfl rfl (val_load rfl Try.ty2 rfl rfl (cell_rec (k := 0) rfl rfl)) ?_
              refine Gx.valg rfl rfl rfl rfl rfl (Val.cast (val_fieldAddr rfl Try.underlying33 rfl Try.ty2 rfl rfl) (v' := ptr b16 3) rfl) ?_
              refine Gx.valg rfl rfl rfl rfl rfl (val_load rfl Try.ty2 rfl rfl (cell_rec (k := 2) rfl rfl)) ?_
              refine Gx.valg rfl rfl rfl rfl rfl (val_eql rfl rfl rfl) ?_
              refine Gx.valg rfl rfl rfl rfl rfl (val_pickT rfl rfl rfl) ?_
              refine Gx.valg rfl rfl rfl rfl rfl (val_move rfl rfl) ?_
              refine Gx.cases (t := 65) rfl (fun h24 => ?_) (fun h24 => ?_)
              · refine Gx.valg rfl rfl rfl rfl rfl (Val.cast (val_fieldAddr rfl Try.underlying33 rfl Try.ty3 rfl rfl) (v' := ptr b21 4) rfl) ?_
                refine Gx.valg rfl rfl rfl rfl rfl (val_load rfl Try.ty3 rfl rfl (cell_rec (k := 0) rfl rfl)) ?_
                refine Gx.valg rfl rfl rfl rfl rfl (Val.cast (val_fieldAddr rfl Try.underlying33 rfl Try.ty3 rfl rfl) (v' := ptr b16 5) rfl) ?_
                refine Gx.valg rfl rfl rfl rfl rfl (val_load rfl Try.ty3 rfl rfl (cell_rec (k := 2) rfl rfl)) ?_
                refine Gx.valg rfl rfl rfl rfl rfl (val_lss rfl rfl rfl) ?_
                refine Gx.valg rfl rfl rfl rfl rfl (val_pickT rfl rfl rfl) ?_
                refine Gx.val rfl rfl rfl (val_pickF rfl rfl rfl) ?_
                refine Gx.val rfl rfl rfl (val_assign rfl rfl) ?_
                refine Gx.done ?_
                refine Gx.blkN ?_
                refine Gx.thenN ?_
                refine Gx.region ?_
                refine Gx.val rfl rfl rfl (val_add rfl rfl rfl (r := ((q + 1 : Nat) : Int)) (w64 (by omega) (by omega))) ?_
                refine Gx.val rfl rfl rfl (val_move rfl rfl) ?_
                refine Gx.done ?_
                refine Gx.thenN ?_
                refine Gx.drop 0 rfl ?_
                exact Gx.round (q + 1, decide (((x20.frm : Nat) : Int) < x15.to)) ⟨by first | omega | (dsimp only; omega), fun h => by have := h0 h; first | rfl | simp_all, fun r y9 hr hy9 g1 g2 g3 => by
                      rcases Nat.lt_or_eq_of_le (Nat.le_of_lt_succ hr) with h9 | rfl
                      · have := hb r y9 h9 hy9 g1 g2 g3; first | rfl | simp_all
                      · cases hx20.symm.trans hy9; first | rfl | (exact decide_eq_true g3) | (simp_all; done) | (exfalso; simp_all)⟩ (by first | omega | (dsimp only; omega)) ((.cons rfl (.cons rfl (.cons rfl (.cons rfl (.cons rfl (.cons rfl (.cons rfl (.cons rfl (.cons rfl .nil)))))))))) rfl
              · refine Gx.skipg rfl rfl rfl rfl rfl rfl ?_
                refine Gx.skipg rfl rfl rfl rfl rfl rfl ?_
                refine Gx.skipg rfl rfl rfl rfl rfl rfl ?_
                refine Gx.skipg rfl rfl rfl rfl rfl rfl ?_
                refine Gx.skipg rfl rfl rfl rfl rfl rfl ?_
                refine Gx.valg rfl rfl rfl rfl rfl (val_pickF rfl rfl rfl) ?_
                refine Gx.val rfl rfl rfl (val_pickF rfl rfl rfl) ?_
                refine Gx.val rfl rfl rfl (val_assign rfl rfl) ?_
                refine Gx.done ?_
                refine Gx.blkN ?_
                refine Gx.thenN ?_
                refine Gx.region ?_
                refine Gx.val rfl rfl rfl (val_add rfl rfl rfl (r := ((q + 1 : Nat) : Int)) (w64 (by omega) (by omega))) ?_
                refine Gx.val rfl rfl rfl (val_move rfl rfl) ?_
                refine Gx.done ?_
                refine Gx.thenN ?_
                refine Gx.drop 0 rfl ?_
                exact Gx.round (q + 1, false) ⟨by first | omega | (dsimp only; omega), fun h => by have := h0 h; first | rfl | simp_all, fun r y9 hr hy9 g1 g2 g3 => by
                      rcases Nat.lt_or_eq_of_le (Nat.le_of_lt_succ hr) with h9 | rfl
                      · have := hb r y9 h9 hy9 g1 g2 g3; first | rfl | simp_all
                      · cases hx20.symm.trans hy9; first | rfl | (exact decide_eq_true g3) | (simp_all; done) | (exfalso; simp_all)⟩ (by first | omega | (dsimp only; omega)) ((.cons rfl (.cons rfl (.cons rfl (.cons rfl (.cons rfl (.cons rfl (.cons rfl (.cons rfl (.cons rfl .nil)))))))))) rfl
            · refine Gx.skipg rfl rfl rfl rfl rfl rfl ?_
              refine Gx.skipg rfl rfl rfl rfl rfl rfl ?_
              refine Gx.skipg rfl rfl rfl rfl rfl rfl ?_
              refine Gx.skipg rfl rfl rfl rfl rfl rfl ?_
              refine Gx.skipg rfl rfl rfl rfl rfl rfl ?_
              refine Gx.valg rfl rfl rfl rfl rfl (val_pickF rfl rfl rfl) ?_
              refine Gx.valg rfl rfl rfl rfl rfl (val_move rfl rfl) ?_
              refine Gx.skipg rfl rfl rfl rfl rfl rfl ?_
              refine Gx.skipg rfl rfl rfl rfl rfl rfl ?_
              refine Gx.skipg rfl rfl rfl rfl rfl rfl ?_
              refine Gx.skipg rfl rfl rfl rfl rfl rfl ?_
              refine Gx.skipg rfl rfl rfl rfl rfl rfl ?_
              refine Gx.valg rfl rfl rfl rfl rfl (val_pickF rfl rfl rfl) ?_
              refine Gx.val rfl rfl rfl (val_pickF rfl rfl rfl) ?_
              refine Gx.val rfl rfl rfl (val_assign rfl rfl) ?_
              refine Gx.done ?_
              refine Gx.blkN ?_
              refine Gx.thenN ?_
              refine Gx.region ?_
              refine Gx.val rfl rfl rfl (val_add rfl rfl rfl (r := ((q + 1 : Nat) : Int)) (w64 (by omega) (by omega))) ?_
              refine Gx.val rfl rfl rfl (val_move rfl rfl) ?_
              refine Gx.done ?_
              refine Gx.thenN ?_
              refine Gx.drop 0 rfl ?_
              exact Gx.round (q + 1, false) ⟨by first | omega | (dsimp only; omega), fun h => by have := h0 h; first | rfl | simp_all, fun r y9 hr hy9 g1 g2 g3 => by
                    rcases Nat.lt_or_eq_of_le (Nat.le_of_lt_succ hr) with h9 | rfl
                    · have := hb r y9 h9 hy9 g1 g2 g3; first | rfl | simp_all
                    · cases hx20.symm.trans hy9; first | rfl | (exact decide_eq_true g3) | (simp_all; done) | (exfalso; simp_all)⟩ (by first | omega | (dsimp only; omega)) ((.cons rfl (.cons rfl (.cons rfl (.cons rfl (.cons rfl (.cons rfl (.cons rfl (.cons rfl (.cons rfl .nil)))))))))) rfl
        · refine Gx.exit ?_
          refine Gx.thenE ?_
          refine Gx.thenE ?_
          refine Gx.blkE ?_
          refine Gx.thenN ?_
          refine Gx.seq ?_
          refine Gx.region ?_
          refine Gx.val rfl rfl rfl (val_move rfl rfl) ?_
          refine Gx.val rfl rfl rfl (val_not rfl rfl) ?_
          refine Gx.done ?_
          refine Gx.thenN ?_
          refine Gx.bool rfl (fun h25 => ?_) (fun h25 => ?_)
          · exfalso
            have hb1 : b = true := by
              rcases hwit with e | ⟨k, y, e1, e2, e3, e4⟩
              · exact h0 e
              · exact hb k y (by have := (List.getElem?_eq_some_iff.1 e1).1; omega) e1 e2 e3 (by omega)
            simp_all
          · refine Gx.skip ?_
            refine Gx.blkN ?_
            refine Gx.thenN ?_
            refine Gx.region ?_
            refine Gx.val rfl rfl rfl (val_add rfl rfl rfl (r := ((j + 1 : Nat) : Int)) (w64 (by omega) (by omega))) ?_
            refine Gx.val rfl rfl rfl (val_move rfl rfl) ?_
            refine Gx.done ?_
            refine Gx.thenN ?_
            refine Gx.drop 1 rfl ?_
            exact Gx.round (j + 1) (by first | omega | (dsimp only; omega)) (by first | omega | (dsimp only; omega)) ((.cons rfl (.cons rfl (.cons rfl (.cons rfl .nil))))) rfl
  · refine Gx.exit ?_
    refine Gx.thenE ?_
    refine Gx.thenE ?_
    refine Gx.blkE ?_
    refine Gx.thenN ?_
    refine Gx.seq ?_
    refine Gx.region ?_
    refine Gx.val rfl rfl rfl (val_assign rfl rfl) ?_
    refine Gx.done ?_
    refine Gx.thenN ?_
    refine Gx.ret ?_
    refine Gx.ret1B hW5 Try.results6 rfl ?_
    rfl

theorem from_any {W : World} {n : Int} {sv : Value} {cs : List Cl} (hs : SlS FC 6 W sv cs) :
    Calls Try.prog 6 #[.int .i64 n, sv] W fun e w' => e = .returned (.bool true) ∧ Below W.heap.size W w' := by
  by_cases h : n < 1 ∨ 5 < n ∨ 120 < (cs.length : Int)
  · exact from_no hs h
  · obtain ⟨m, rfl⟩ : ∃ m : Nat, n = (m : Int) := ⟨n.toNat, by omega⟩
    exact from_yes (by omega) (by omega) (by omega) hs
end Go.Proofs.Ytjiefamdpbnngaa
