/- What there was up to a moment has an order, too. No condition. -/
import Derived.Test.YtocgifddjpbmlaaM2
namespace Go.Proofs.Ytocgifddjpbmlaa
open Go.RowKit
set_option linter.unusedVariables false
set_option linter.unusedSimpArgs false
set_option maxRecDepth 100000

theorem front_any {W : World} {hv : Value} {h : List Op} (t : Int) (hs : SlS FO 6 W hv h) (hbig : h.length * 48 ≤ 140737488351232) :
    Calls Try.prog 5 #[hv, .int .i64 t] W fun e w' => e = .returned (.bool true) ∧ Below W.heap.size W w' := by
  have hlen := sls_bd hs
  refine calls_pure (Gx.enter (l := []) Try.func5 rfl Try.ntmps5 rfl (Sat.start W) ?_)
  refine Gx.know (m' := [(0, hv), (1, .int .i64 t)]) (.cons rfl (.cons rfl .nil)) ?_
  refine Gx.seq ?_
  refine Gx.region ?_
  refine Gx.val rfl rfl rfl (val_assign rfl rfl) ?_
  refine Gx.done ?_
  refine Gx.thenN ?_
  refine Gx.seq ?_
  refine Gx.region ?_
  refine Gx.val rfl rfl rfl (val_move rfl rfl) ?_
  refine Gx.eff rfl rfl rfl (eff_callE (vs := [hv]) rfl Try.fn9 rfl (R := LinR h) (fun w H => linear_any (hs.below H.below))) ?_
  rintro _ _ ⟨⟨a1, n1, c1, b1, e1, rfl, hA1, hB1⟩, rfl⟩
  refine Gx.val rfl rfl rfl (val_move rfl rfl) ?_
  refine Gx.val rfl rfl rfl (val_extract rfl rfl rfl) ?_
  refine Gx.val rfl rfl rfl (val_extract rfl rfl rfl) ?_
  refine Gx.val rfl rfl rfl (val_extract rfl rfl rfl) ?_
  refine Gx.val rfl rfl rfl (val_assign rfl rfl) ?_
  refine Gx.val rfl rfl rfl (val_assign rfl rfl) ?_
  refine Gx.val rfl rfl rfl (val_assign rfl rfl) ?_
  refine Gx.done ?_
  refine Gx.thenN ?_
  refine Gx.seq ?_
  refine Gx.seq ?_
  refine Gx.region ?_
  refine Gx.val rfl rfl rfl (val_move rfl rfl) ?_
  refine Gx.eff rfl rfl rfl (eff_callE (vs := [hv]) rfl Try.fn10 rfl (R := fun v => ∃ b : Bool, v = .bool b ∧ (b = true ↔ OkH h)) (fun w H => history_any (hs.below H.below))) ?_
  rintro _ _ ⟨⟨b2, rfl, hb2⟩, rfl⟩
  refine Gx.val rfl rfl rfl (val_not rfl rfl) ?_
  refine Gx.done ?_
  refine Gx.thenN ?_
  refine Gx.bool rfl (fun h3 => ?_) (fun h3 => ?_)
  · refine Gx.seq ?_
    refine Gx.region ?_
    refine Gx.val rfl rfl rfl (val_move rfl rfl) ?_
    refine Gx.val rfl rfl rfl (val_neq rfl rfl rfl) ?_
    refine Gx.val rfl rfl rfl (val_assign rfl rfl) ?_
    refine Gx.done ?_
    refine Gx.thenN ?_
    refine Gx.ret ?_
    refine Gx.thenR ?_
    refine Gx.ret1 Try.results5 rfl ?_
    exact congrArg Value.bool (decide_eq_true (by intro q; have := hb2.2 (hA1.1 q); simp_all))
  · refine Gx.skip ?_
    refine Gx.thenN ?_
    refine Gx.seq ?_
    refine Gx.region ?_
    refine Gx.val rfl rfl rfl (val_assign rfl rfl) ?_
    refine Gx.done ?_
    refine Gx.thenN ?_
    refine Gx.seq ?_
    refine Gx.seq ?_
    refine Gx.ownNil FO 6 ?_
    refine Gx.region ?_
    refine Gx.val rfl rfl rfl (val_move rfl rfl) ?_
    refine Gx.val rfl rfl rfl (val_len rfl Try.underlying22 rfl (len_base hs)) ?_
    refine Gx.val rfl rfl rfl (val_move rfl rfl) ?_
    refine Gx.done ?_
    refine Gx.thenN ?_
    refine Gx.block ?_
    refine Gx.loop (ι := Nat × Value) (fun ξ => (ξ.1 ≤ h.length)) (fun ξ => [(0, hv), (1, .int .i64 t), (5, .slice a1 n1 c1), (6, .bool b1), (7, .int .i64 e1), (28, hv), (29, .int .i64 ((h.length : Nat) : Int)), (8, ξ.2), (30, .int .i64 ((ξ.1 : Nat) : Int))]) (fun ξ => [Hp.own FO 6 ξ.2 (cutH t (h.take ξ.1))]) (fun ξ => h.length - ξ.1) (0, (.slice none 0 0)) (by first | omega | (dsimp only; omega)) ((.cons rfl (.cons rfl (.cons rfl (.cons rfl (.cons rfl (.cons rfl (.cons rfl (.cons rfl (.cons rfl .nil)))))))))) rfl ?_
    rintro ⟨k, lv⟩ hk
    dsimp only at hk
    refine Gx.know (m' := [(0, hv), (1, .int .i64 t), (5, .slice a1 n1 c1), (6, .bool b1), (7, .int .i64 e1), (28, hv), (29, .int .i64 ((h.length : Nat) : Int)), (8, lv), (30, .int .i64 ((k : Nat) : Int))]) (.cons rfl (.cons rfl (.cons rfl (.cons rfl (.cons rfl (.cons rfl (.cons rfl (.cons rfl (.cons rfl .nil))))))))) (Gx.norm (l' := [Hp.own FO 6 lv (cutH t (h.take k))]) rfl ?_)
    have hfl : (cutH t (h.take k)).length ≤ h.length := Nat.le_trans (cutH_len _ _) (by rw [List.length_take]; omega)
    refine Gx.seq ?_
    refine Gx.region ?_
    refine Gx.val rfl rfl rfl (val_lss rfl rfl rfl) ?_
    refine Gx.done ?_
    refine Gx.thenN ?_
    refine Gx.seq ?_
    refine Gx.dec rfl (fun h4 => ?_) (fun h4 => ?_)
    · refine Gx.skip ?_
      refine Gx.thenN ?_
      refine Gx.seq ?_
      refine Gx.block ?_
      refine Gx.seq ?_
      refine Gx.region ?_
      obtain ⟨x5, hx5⟩ := get_of_lt (xs := h) (k := k) (by omega)
      refine Gx.val rfl rfl rfl (val_ixa rfl Try.underlying22 Try.ty31 rfl rfl (j := k) (rfl) (reach_base hs hx5)) ?_
      refine Gx.val rfl rfl rfl (Val.cast (val_loadA rfl Try.ty31 rfl rfl rfl (cells_base hs hx5)) (v' := .agg #[.int .i64 x5.who, .int .i64 x5.reg, .bool x5.write, .int .i64 x5.val, .int .i64 x5.fr, .int .i64 x5.to]) rfl) ?_
      refine Gx.eff rfl rfl rfl (eff_alloc rfl Try.ty31 (vs := [.int .i64 0, .int .i64 0, .bool false, .int .i64 0, .int .i64 0, .int .i64 0]) rfl) ?_
      rintro _ _ ⟨b6, rfl, rfl⟩
      refine Gx.eff0 rfl rfl (eff_store rfl Try.ty31 rfl rfl (us := [.int .i64 x5.who, .int .i64 x5.reg, .bool x5.write, .int .i64 x5.val, .int .i64 x5.fr, .int .i64 x5.to]) rfl rfl rfl (k := 0) rfl (rfl) (vs' := [.int .i64 x5.who, .int .i64 x5.reg, .bool x5.write, .int .i64 x5.val, .int .i64 x5.fr, .int .i64 x5.to]) (rfl) (l' := [Hp.rec_ b6 [.int .i64 x5.who, .int .i64 x5.reg, .bool x5.write, .int .i64 x5.val, .int .i64 x5.fr, .int .i64 x5.to], Hp.own FO 6 lv (cutH t (h.take k))]) rfl) ?_
      rintro _ _ rfl
      refine Gx.done ?_
      refine Gx.thenN ?_
      refine Gx.seq ?_
      refine Gx.seq ?_
      refine Gx.region ?_
      refine Gx.val rfl rfl rfl (Val.cast (val_fieldAddr rfl Try.underlying31 rfl Try.ty3 rfl rfl) (v' := ptr b6 4) rfl) ?_
      refine Gx.val rfl rfl rfl (val_load rfl Try.ty3 rfl rfl (cell_rec (k := 0) rfl rfl)) ?_
      refine Gx.val rfl rfl rfl (val_move rfl rfl) ?_
      refine Gx.val rfl rfl rfl (val_gtr rfl rfl rfl) ?_
      refine Gx.done ?_
      refine Gx.thenN ?_
      refine Gx.dec rfl (fun h7 => ?_) (fun h7 => ?_)
      · refine Gx.exit ?_
        refine Gx.thenE ?_
        refine Gx.blkE ?_
        refine Gx.thenN ?_
        refine Gx.region ?_
        refine Gx.val rfl rfl rfl (val_add rfl rfl rfl (r := ((k + 1 : Nat) : Int)) (w64 (by omega) (by omega))) ?_
        refine Gx.val rfl rfl rfl (val_move rfl rfl) ?_
        refine Gx.done ?_
        refine Gx.thenN ?_
        refine Gx.drop 0 rfl ?_
        refine Gx.norm (l' := [Hp.own FO 6 lv (cutH t (h.take (k + 1)))]) (by rw [cutH_snoc hx5, if_neg (by omega), List.append_nil] <;> rfl) ?_
        exact Gx.round (k + 1, lv) (by first | omega | (dsimp only; omega)) (by first | omega | (dsimp only; omega)) ((.cons rfl (.cons rfl (.cons rfl (.cons rfl (.cons rfl (.cons rfl (.cons rfl (.cons rfl (.cons rfl .nil)))))))))) rfl
      · refine Gx.skip ?_
        refine Gx.thenN ?_
        refine Gx.seq ?_
        refine Gx.seq ?_
        refine Gx.region ?_
        refine Gx.val rfl rfl rfl (Val.cast (val_fieldAddr rfl Try.underlying31 rfl Try.ty3 rfl rfl) (v' := ptr b6 5) rfl) ?_
        refine Gx.val rfl rfl rfl (val_load rfl Try.ty3 rfl rfl (cell_rec (k := 0) rfl rfl)) ?_
        refine Gx.val rfl rfl rfl (val_move rfl rfl) ?_
        refine Gx.val rfl rfl rfl (val_gtr rfl rfl rfl) ?_
        refine Gx.done ?_
        refine Gx.thenN ?_
        refine Gx.dec rfl (fun h8 => ?_) (fun h8 => ?_)
        · refine Gx.region ?_
          refine Gx.val rfl rfl rfl (Val.cast (val_fieldAddr rfl Try.underlying31 rfl Try.ty3 rfl rfl) (v' := ptr b6 5) rfl) ?_
          refine Gx.eff0 rfl rfl (eff_store rfl Try.ty3 rfl rfl (us := [.int .i64 (-1)]) rfl rfl rfl (k := 0) rfl (rfl) (vs' := [.int .i64 x5.who, .int .i64 x5.reg, .bool x5.write, .int .i64 x5.val, .int .i64 x5.fr, .int .i64 (-1)]) (rfl) (l' := [Hp.rec_ b6 [.int .i64 x5.who, .int .i64 x5.reg, .bool x5.write, .int .i64 x5.val, .int .i64 x5.fr, .int .i64 (-1)], Hp.own FO 6 lv (cutH t (h.take k))]) rfl) ?_
          rintro _ _ rfl
          refine Gx.done ?_
          refine Gx.thenN ?_
          refine Gx.region ?_
          refine Gx.val rfl rfl rfl (val_move rfl rfl) ?_
          refine Gx.val rfl rfl rfl (Val.cast (val_loadA rfl Try.ty31 rfl rfl rfl (cells_rec (k := 0) rfl)) (v' := .agg #[.int .i64 x5.who, .int .i64 x5.reg, .bool x5.write, .int .i64 x5.val, .int .i64 x5.fr, .int .i64 (-1)]) rfl) ?_
          refine Gx.eff rfl rfl rfl (eff_buildSlice rfl (qs := [(0, .agg #[.int .i64 x5.who, .int .i64 x5.reg, .bool x5.write, .int .i64 x5.val, .int .i64 x5.fr, .int .i64 (-1)])]) rfl rfl (cs := #[.int .i64 x5.who, .int .i64 x5.reg, .bool x5.write, .int .i64 x5.val, .int .i64 x5.fr, .int .i64 (-1)]) (vs := [.int .i64 x5.who, .int .i64 x5.reg, .bool x5.write, .int .i64 x5.val, .int .i64 x5.fr, .int .i64 (-1)]) (E := 31) rfl (fun w => by first | (go_simp; done) | (go_simp; rfl))) ?_
          rintro _ _ ⟨b9, rfl, rfl⟩
          refine Gx.eff rfl rfl rfl (eff_push (r := (⟨x5.who, x5.reg, x5.write, x5.val, x5.fr, (-1)⟩ : Op)) rfl Try.eO FO_len FO_one rfl rfl (k := 0) rfl rfl (k' := 1) rfl (by omega) (by omega)) ?_
          rintro v10 _ ⟨hiv10, rfl⟩
          refine Gx.norm (l' := [Hp.rec_ b6 [.int .i64 x5.who, .int .i64 x5.reg, .bool x5.write, .int .i64 x5.val, .int .i64 x5.fr, .int .i64 (-1)], Hp.own FO 6 v10 ((cutH t (h.take k)) ++ [(⟨x5.who, x5.reg, x5.write, x5.val, x5.fr, (-1)⟩ : Op)])]) rfl ?_
          refine Gx.val rfl rfl rfl (val_assign rfl rfl) ?_
          refine Gx.done ?_
          refine Gx.blkN ?_
          refine Gx.thenN ?_
          refine Gx.region ?_
          refine Gx.val rfl rfl rfl (val_add rfl rfl rfl (r := ((k + 1 : Nat) : Int)) (w64 (by omega) (by omega))) ?_
          refine Gx.val rfl rfl rfl (val_move rfl rfl) ?_
          refine Gx.done ?_
          refine Gx.thenN ?_
          refine Gx.drop 0 rfl ?_
          refine Gx.norm (l' := [Hp.own FO 6 v10 (cutH t (h.take (k + 1)))]) (by rw [cutH_snoc hx5, if_pos (by omega)]; unfold cutO; rw [if_pos h8] <;> rfl) ?_
          exact Gx.round (k + 1, v10) (by first | omega | (dsimp only; omega)) (by first | omega | (dsimp only; omega)) ((.cons rfl (.cons rfl (.cons rfl (.cons rfl (.cons rfl (.cons rfl (.cons rfl (.cons rfl (.cons rfl .nil)))))))))) rfl
        · refine Gx.skip ?_
          refine Gx.thenN ?_
          refine Gx.region ?_
          refine Gx.val rfl rfl rfl (val_move rfl rfl) ?_
          refine Gx.val rfl rfl rfl (Val.cast (val_loadA rfl Try.ty31 rfl rfl rfl (cells_rec (k := 0) rfl)) (v' := .agg #[.int .i64 x5.who, .int .i64 x5.reg, .bool x5.write, .int .i64 x5.val, .int .i64 x5.fr, .int .i64 x5.to]) rfl) ?_
          refine Gx.eff rfl rfl rfl (eff_buildSlice rfl (qs := [(0, .agg #[.int .i64 x5.who, .int .i64 x5.reg, .bool x5.write, .int .i64 x5.val, .int .i64 x5.fr, .int .i64 x5.to])]) rfl rfl (cs := #[.int .i64 x5.who, .int .i64 x5.reg, .bool x5.write, .int .i64 x5.val, .int .i64 x5.fr, .int .i64 x5.to]) (vs := [.int .i64 x5.who, .int .i64 x5.reg, .bool x5.write, .int .i64 x5.val, .int .i64 x5.fr, .int .i64 x5.to]) (E := 31) rfl (fun w => by first | (go_simp; done) | (go_simp; rfl))) ?_
          rintro _ _ ⟨b11, rfl, rfl⟩
          refine Gx.eff rfl rfl rfl (eff_push (r := (⟨x5.who, x5.reg, x5.write, x5.val, x5.fr, x5.to⟩ : Op)) rfl Try.eO FO_len FO_one rfl rfl (k := 0) rfl rfl (k' := 1) rfl (by omega) (by omega)) ?_
          rintro v12 _ ⟨hiv12, rfl⟩
          refine Gx.norm (l' := [Hp.rec_ b6 [.int .i64 x5.who, .int .i64 x5.reg, .bool x5.write, .int .i64 x5.val, .int .i64 x5.fr, .int .i64 x5.to], Hp.own FO 6 v12 ((cutH t (h.take k)) ++ [(⟨x5.who, x5.reg, x5.write, x5.val, x5.fr, x5.to⟩ : Op)])]) rfl ?_
          refine Gx.val rfl rfl rfl (val_assign rfl rfl) ?_
          refine Gx.done ?_
          refine Gx.blkN ?_
          refine Gx.thenN ?_
          refine Gx.region ?_
          refine Gx.val rfl rfl rfl (val_add rfl rfl rfl (r := ((k + 1 : Nat) : Int)) (w64 (by omega) (by omega))) ?_
          refine Gx.val rfl rfl rfl (val_move rfl rfl) ?_
          refine Gx.done ?_
          refine Gx.thenN ?_
          refine Gx.drop 0 rfl ?_
          refine Gx.norm (l' := [Hp.own FO 6 v12 (cutH t (h.take (k + 1)))]) (by rw [cutH_snoc hx5, if_pos (by omega)]; unfold cutO; rw [if_neg h8] <;> rfl) ?_
          exact Gx.round (k + 1, v12) (by first | omega | (dsimp only; omega)) (by first | omega | (dsimp only; omega)) ((.cons rfl (.cons rfl (.cons rfl (.cons rfl (.cons rfl (.cons rfl (.cons rfl (.cons rfl (.cons rfl .nil)))))))))) rfl
    · refine Gx.exit ?_
      refine Gx.thenE ?_
      refine Gx.thenE ?_
      refine Gx.blkE ?_
      refine Gx.thenN ?_
      refine Gx.seq ?_
      obtain rfl : k = h.length := by omega
      refine Gx.norm (l' := [Hp.own FO 6 lv (cutH t h)]) (by rw [List.take_length] <;> rfl) ?_
      have hcl := cutH_len t h
      refine Gx.region ?_
      refine Gx.val rfl rfl rfl (val_move rfl rfl) ?_
      refine Gx.eff rfl rfl rfl (eff_callE (vs := [lv]) rfl Try.fn9 rfl (R := LinR (cutH t h)) (fun w H => linear_any ((H.at_ (k := 0) rfl).sls (by omega)))) ?_
      rintro _ _ ⟨⟨a13, n13, c13, b13, e13, rfl, hA13, hB13⟩, rfl⟩
      refine Gx.val rfl rfl rfl (val_move rfl rfl) ?_
      refine Gx.val rfl rfl rfl (val_extract rfl rfl rfl) ?_
      refine Gx.val rfl rfl rfl (val_extract rfl rfl rfl) ?_
      refine Gx.val rfl rfl rfl (val_extract rfl rfl rfl) ?_
      refine Gx.val rfl rfl rfl (val_assign rfl rfl) ?_
      refine Gx.val rfl rfl rfl (val_assign rfl rfl) ?_
      refine Gx.val rfl rfl rfl (val_assign rfl rfl) ?_
      refine Gx.done ?_
      refine Gx.thenN ?_
      refine Gx.seq ?_
      refine Gx.region ?_
      refine Gx.eff rfl rfl rfl (eff_callE (vs := [.slice none 0 0]) rfl Try.fn9 rfl (R := LinR ([])) (fun w H => linear_any sls_nil)) ?_
      rintro _ _ ⟨⟨a14, n14, c14, b14, e14, rfl, hA14, hB14⟩, rfl⟩
      refine Gx.val rfl rfl rfl (val_move rfl rfl) ?_
      refine Gx.val rfl rfl rfl (val_extract rfl rfl rfl) ?_
      refine Gx.val rfl rfl rfl (val_extract rfl rfl rfl) ?_
      refine Gx.val rfl rfl rfl (val_extract rfl rfl rfl) ?_
      refine Gx.val rfl rfl rfl (val_assign rfl rfl) ?_
      refine Gx.val rfl rfl rfl (val_assign rfl rfl) ?_
      refine Gx.val rfl rfl rfl (val_assign rfl rfl) ?_
      refine Gx.done ?_
      refine Gx.thenN ?_
      refine Gx.seq ?_
      refine Gx.region ?_
      refine Gx.val rfl rfl rfl (val_move rfl rfl) ?_
      refine Gx.val rfl rfl rfl (val_eql rfl rfl rfl) ?_
      refine Gx.val rfl rfl rfl (val_move rfl rfl) ?_
      refine Gx.cases (t := 61) rfl (fun h15 => ?_) (fun h15 => ?_)
      · refine Gx.valg rfl rfl rfl rfl rfl (val_move rfl rfl) ?_
        refine Gx.valg rfl rfl rfl rfl rfl (val_eql rfl rfl rfl) ?_
        refine Gx.val rfl rfl rfl (val_pickT rfl rfl rfl) ?_
        refine Gx.val rfl rfl rfl (val_move rfl rfl) ?_
        refine Gx.cases (t := 65) rfl (fun h16 => ?_) (fun h16 => ?_)
        · refine Gx.valg rfl rfl rfl rfl rfl (val_move rfl rfl) ?_
          refine Gx.valg rfl rfl rfl rfl rfl (val_eql rfl rfl rfl) ?_
          refine Gx.val rfl rfl rfl (val_pickT rfl rfl rfl) ?_
          refine Gx.val rfl rfl rfl (val_move rfl rfl) ?_
          refine Gx.cases (t := 69) rfl (fun h17 => ?_) (fun h17 => ?_)
          · refine Gx.valg rfl rfl rfl rfl rfl (val_move rfl rfl) ?_
            refine Gx.valg rfl rfl rfl rfl rfl (val_len rfl Try.underlying23 rfl len_lit) ?_
            refine Gx.valg rfl rfl rfl rfl rfl (val_eql rfl rfl rfl) ?_
            refine Gx.val rfl rfl rfl (val_pickT rfl rfl rfl) ?_
            refine Gx.val rfl rfl rfl (val_move rfl rfl) ?_
            refine Gx.cases (t := 74) rfl (fun h18 => ?_) (fun h18 => ?_)
            · refine Gx.valg rfl rfl rfl rfl rfl (val_move rfl rfl) ?_
              refine Gx.val rfl rfl rfl (val_pickT rfl rfl rfl) ?_
              refine Gx.val rfl rfl rfl (val_move rfl rfl) ?_
              refine Gx.casesB (t := 77) rfl (fun h19 => ?_) (fun h19 => ?_)
              · refine Gx.valg rfl rfl rfl rfl rfl (val_move rfl rfl) ?_
                refine Gx.valg rfl rfl rfl rfl rfl (val_not rfl rfl) ?_
                refine Gx.valg rfl rfl rfl rfl rfl (val_move rfl rfl) ?_
                refine Gx.casesB (t := 80) rfl (fun h20 => ?_) (fun h20 => ?_)
                · refine Gx.skipg rfl rfl rfl rfl rfl rfl ?_
                  refine Gx.valg rfl rfl rfl rfl rfl (val_pickT rfl rfl rfl) ?_
                  refine Gx.val rfl rfl rfl (val_pickT rfl rfl rfl) ?_
                  refine Gx.val rfl rfl rfl (val_assign rfl rfl) ?_
                  refine Gx.done ?_
                  refine Gx.thenN ?_
                  refine Gx.ret ?_
                  have hk := hb2.1 (by simp_all)
                  have e1 := hA1.2 hk
                  have e2 := hA13.2 (cut_ok hk)
                  have e3 := hA14.2 empty_ok
                  have i1 := (hB1 hk).1
                  have i2 := (hB13 (cut_ok hk)).1
                  have i3 := hB14 empty_ok
                  have i4 := i3.2.trans empty_len
                  have i5 := i3.1.trans empty_is
                  refine Gx.ret1 Try.results5 rfl ?_
                  first | (exfalso; omega) | rfl | (exact congrArg Value.bool (by rw [i2]; exact front_is (by rw [← i1]; simp_all))) | (exfalso; simp_all; done) | trace_state
                · refine Gx.valg rfl rfl rfl rfl rfl (val_move rfl rfl) ?_
                  refine Gx.valg rfl rfl rfl rfl rfl (val_pickF rfl rfl rfl) ?_
                  refine Gx.val rfl rfl rfl (val_pickT rfl rfl rfl) ?_
                  refine Gx.val rfl rfl rfl (val_assign rfl rfl) ?_
                  refine Gx.done ?_
                  refine Gx.thenN ?_
                  refine Gx.ret ?_
                  have hk := hb2.1 (by simp_all)
                  have e1 := hA1.2 hk
                  have e2 := hA13.2 (cut_ok hk)
                  have e3 := hA14.2 empty_ok
                  have i1 := (hB1 hk).1
                  have i2 := (hB13 (cut_ok hk)).1
                  have i3 := hB14 empty_ok
                  have i4 := i3.2.trans empty_len
                  have i5 := i3.1.trans empty_is
                  refine Gx.ret1 Try.results5 rfl ?_
                  first | (exfalso; omega) | rfl | (exact congrArg Value.bool (by rw [i2]; exact front_is (by rw [← i1]; simp_all))) | (exfalso; simp_all; done) | trace_state
              · refine Gx.skipg rfl rfl rfl rfl rfl rfl ?_
                refine Gx.skipg rfl rfl rfl rfl rfl rfl ?_
                refine Gx.skipg rfl rfl rfl rfl rfl rfl ?_
                refine Gx.skipu rfl rfl rfl rfl rfl ?_
                refine Gx.skipg rfl rfl rfl rfl rfl rfl ?_
                refine Gx.val rfl rfl rfl (val_pickF rfl rfl rfl) ?_
                refine Gx.val rfl rfl rfl (val_assign rfl rfl) ?_
                refine Gx.done ?_
                refine Gx.thenN ?_
                refine Gx.ret ?_
                have hk := hb2.1 (by simp_all)
                have e1 := hA1.2 hk
                have e2 := hA13.2 (cut_ok hk)
                have e3 := hA14.2 empty_ok
                have i1 := (hB1 hk).1
                have i2 := (hB13 (cut_ok hk)).1
                have i3 := hB14 empty_ok
                have i4 := i3.2.trans empty_len
                have i5 := i3.1.trans empty_is
                refine Gx.ret1 Try.results5 rfl ?_
                first | (exfalso; omega) | rfl | (exact congrArg Value.bool (by rw [i2]; exact front_is (by rw [← i1]; simp_all))) | (exfalso; simp_all; done) | trace_state
            · refine Gx.skipg rfl rfl rfl rfl rfl rfl ?_
              refine Gx.val rfl rfl rfl (val_pickF rfl rfl rfl) ?_
              refine Gx.val rfl rfl rfl (val_move rfl rfl) ?_
              refine Gx.skipg rfl rfl rfl rfl rfl rfl ?_
              refine Gx.skipg rfl rfl rfl rfl rfl rfl ?_
              refine Gx.skipg rfl rfl rfl rfl rfl rfl ?_
              refine Gx.skipu rfl rfl rfl rfl rfl ?_
              refine Gx.skipg rfl rfl rfl rfl rfl rfl ?_
              refine Gx.val rfl rfl rfl (val_pickF rfl rfl rfl) ?_
              refine Gx.val rfl rfl rfl (val_assign rfl rfl) ?_
              refine Gx.done ?_
              refine Gx.thenN ?_
              refine Gx.ret ?_
              have hk := hb2.1 (by simp_all)
              have e1 := hA1.2 hk
              have e2 := hA13.2 (cut_ok hk)
              have e3 := hA14.2 empty_ok
              have i1 := (hB1 hk).1
              have i2 := (hB13 (cut_ok hk)).1
              have i3 := hB14 empty_ok
              have i4 := i3.2.trans empty_len
              have i5 := i3.1.trans empty_is
              refine Gx.ret1 Try.results5 rfl ?_
              first | (exfalso; omega) | rfl | (exact congrArg Value.bool (by rw [i2]; exact front_is (by rw [← i1]; simp_all))) | (exfalso; simp_all; done) | trace_state
          · refine Gx.skipg rfl rfl rfl rfl rfl rfl ?_
            refine Gx.skipg rfl rfl rfl rfl rfl rfl ?_
            refine Gx.skipg rfl rfl rfl rfl rfl rfl ?_
            refine Gx.val rfl rfl rfl (val_pickF rfl rfl rfl) ?_
            refine Gx.val rfl rfl rfl (val_move rfl rfl) ?_
            refine Gx.skipg rfl rfl rfl rfl rfl rfl ?_
            refine Gx.val rfl rfl rfl (val_pickF rfl rfl rfl) ?_
            refine Gx.val rfl rfl rfl (val_move rfl rfl) ?_
            refine Gx.skipg rfl rfl rfl rfl rfl rfl ?_
            refine Gx.skipg rfl rfl rfl rfl rfl rfl ?_
            refine Gx.skipg rfl rfl rfl rfl rfl rfl ?_
            refine Gx.skipu rfl rfl rfl rfl rfl ?_
            refine Gx.skipg rfl rfl rfl rfl rfl rfl ?_
            refine Gx.val rfl rfl rfl (val_pickF rfl rfl rfl) ?_
            refine Gx.val rfl rfl rfl (val_assign rfl rfl) ?_
            refine Gx.done ?_
            refine Gx.thenN ?_
            refine Gx.ret ?_
            have hk := hb2.1 (by simp_all)
            have e1 := hA1.2 hk
            have e2 := hA13.2 (cut_ok hk)
            have e3 := hA14.2 empty_ok
            have i1 := (hB1 hk).1
            have i2 := (hB13 (cut_ok hk)).1
            have i3 := hB14 empty_ok
            have i4 := i3.2.trans empty_len
            have i5 := i3.1.trans empty_is
            refine Gx.ret1 Try.results5 rfl ?_
            first | (exfalso; omega) | rfl | (exact congrArg Value.bool (by rw [i2]; exact front_is (by rw [← i1]; simp_all))) | (exfalso; simp_all; done) | trace_state
        · refine Gx.skipg rfl rfl rfl rfl rfl rfl ?_
          refine Gx.skipg rfl rfl rfl rfl rfl rfl ?_
          refine Gx.val rfl rfl rfl (val_pickF rfl rfl rfl) ?_
          refine Gx.val rfl rfl rfl (val_move rfl rfl) ?_
          refine Gx.skipg rfl rfl rfl rfl rfl rfl ?_
          refine Gx.skipg rfl rfl rfl rfl rfl rfl ?_
          refine Gx.skipg rfl rfl rfl rfl rfl rfl ?_
          refine Gx.val rfl rfl rfl (val_pickF rfl rfl rfl) ?_
          refine Gx.val rfl rfl rfl (val_move rfl rfl) ?_
          refine Gx.skipg rfl rfl rfl rfl rfl rfl ?_
          refine Gx.val rfl rfl rfl (val_pickF rfl rfl rfl) ?_
          refine Gx.val rfl rfl rfl (val_move rfl rfl) ?_
          refine Gx.skipg rfl rfl rfl rfl rfl rfl ?_
          refine Gx.skipg rfl rfl rfl rfl rfl rfl ?_
          refine Gx.skipg rfl rfl rfl rfl rfl rfl ?_
          refine Gx.skipu rfl rfl rfl rfl rfl ?_
          refine Gx.skipg rfl rfl rfl rfl rfl rfl ?_
          refine Gx.val rfl rfl rfl (val_pickF rfl rfl rfl) ?_
          refine Gx.val rfl rfl rfl (val_assign rfl rfl) ?_
          refine Gx.done ?_
          refine Gx.thenN ?_
          refine Gx.ret ?_
          have hk := hb2.1 (by simp_all)
          have e1 := hA1.2 hk
          have e2 := hA13.2 (cut_ok hk)
          have e3 := hA14.2 empty_ok
          have i1 := (hB1 hk).1
          have i2 := (hB13 (cut_ok hk)).1
          have i3 := hB14 empty_ok
          have i4 := i3.2.trans empty_len
          have i5 := i3.1.trans empty_is
          refine Gx.ret1 Try.results5 rfl ?_
          first | (exfalso; omega) | rfl | (exact congrArg Value.bool (by rw [i2]; exact front_is (by rw [← i1]; simp_all))) | (exfalso; simp_all; done) | trace_state
      · refine Gx.skipg rfl rfl rfl rfl rfl rfl ?_
        refine Gx.skipg rfl rfl rfl rfl rfl rfl ?_
        refine Gx.val rfl rfl rfl (val_pickF rfl rfl rfl) ?_
        refine Gx.val rfl rfl rfl (val_move rfl rfl) ?_
        refine Gx.skipg rfl rfl rfl rfl rfl rfl ?_
        refine Gx.skipg rfl rfl rfl rfl rfl rfl ?_
        refine Gx.val rfl rfl rfl (val_pickF rfl rfl rfl) ?_
        refine Gx.val rfl rfl rfl (val_move rfl rfl) ?_
        refine Gx.skipg rfl rfl rfl rfl rfl rfl ?_
        refine Gx.skipg rfl rfl rfl rfl rfl rfl ?_
        refine Gx.skipg rfl rfl rfl rfl rfl rfl ?_
        refine Gx.val rfl rfl rfl (val_pickF rfl rfl rfl) ?_
        refine Gx.val rfl rfl rfl (val_move rfl rfl) ?_
        refine Gx.skipg rfl rfl rfl rfl rfl rfl ?_
        refine Gx.val rfl rfl rfl (val_pickF rfl rfl rfl) ?_
        refine Gx.val rfl rfl rfl (val_move rfl rfl) ?_
        refine Gx.skipg rfl rfl rfl rfl rfl rfl ?_
        refine Gx.skipg rfl rfl rfl rfl rfl rfl ?_
        refine Gx.skipg rfl rfl rfl rfl rfl rfl ?_
        refine Gx.skipu rfl rfl rfl rfl rfl ?_
        refine Gx.skipg rfl rfl rfl rfl rfl rfl ?_
        refine Gx.val rfl rfl rfl (val_pickF rfl rfl rfl) ?_
        refine Gx.val rfl rfl rfl (val_assign rfl rfl) ?_
        refine Gx.done ?_
        refine Gx.thenN ?_
        refine Gx.ret ?_
        have hk := hb2.1 (by simp_all)
        have e1 := hA1.2 hk
        have e2 := hA13.2 (cut_ok hk)
        have e3 := hA14.2 empty_ok
        have i1 := (hB1 hk).1
        have i2 := (hB13 (cut_ok hk)).1
        have i3 := hB14 empty_ok
        have i4 := i3.2.trans empty_len
        have i5 := i3.1.trans empty_is
        refine Gx.ret1 Try.results5 rfl ?_
        first | (exfalso; omega) | rfl | (exact congrArg Value.bool (by rw [i2]; exact front_is (by rw [← i1]; simp_all))) | (exfalso; simp_all; done) | trace_state

end Go.Proofs.Ytocgifddjpbmlaa
