/- What is told is an order, and none stands ahead of it. No condition. -/
import Derived.Test.YtocgifddjpbmlaaB4
namespace Go.Proofs.Ytocgifddjpbmlaa
open Go.RowKit
set_option linter.unusedVariables false
set_option linter.unusedSimpArgs false
set_option maxRecDepth 100000

/-- what the law says of two lists -/
theorem lex_two {h : List Op} {xs zs : List Int} (hok : OkH h) (hx : IsOrd h xs) (hz : zs = ((FL h []).getD []).map (Nat.cast : Nat → Int)) :
    (FL h []).isSome = true ∧ ((∃ (q : Nat) (x y : Int), (∀ k : Nat, k < q → zs[k]? = xs[k]?) ∧ zs[q]? = some x ∧ xs[q]? = some y ∧ x < y) ∨ (zs.length ≤ xs.length ∧ ∀ k : Nat, k < zs.length → zs[k]? = xs[k]?)) := by
  obtain ⟨m', rfl, E⟩ := isord_ext hok hx
  have hs := FL_of E (Gd.nil h)
  refine ⟨hs, ?_⟩
  obtain ⟨m, hm⟩ := Option.isSome_iff_exists.1 hs
  rw [hm] at hz
  obtain rfl : zs = m.map (Nat.cast : Nat → Int) := hz
  rcases lexFL E m (Gd.nil h) hm with ⟨q, x, y, h1, h2, h3, h4⟩ | ⟨h1, h2⟩
  · refine .inl ⟨q, x, y, fun k hk => ?_, by rw [List.getElem?_map, h2]; rfl, by rw [List.getElem?_map, h3]; rfl, by omega⟩
    rw [List.getElem?_map, List.getElem?_map]
    have := congrArg (·[k]?) h1
    simp only [List.getElem?_take, if_pos hk] at this
    rw [this]
  · refine .inr ⟨by rw [List.length_map, List.length_map]; exact h1, fun k hk => ?_⟩
    rw [List.length_map] at hk
    rw [List.getElem?_map, List.getElem?_map]
    have := congrArg (·[k]?) h2
    simp only [List.getElem?_take, if_pos hk] at this
    rw [this]
theorem told_ord {h : List Op} {zs : List Int} (hs : (FL h []).isSome = true) (hz : zs = ((FL h []).getD []).map (Nat.cast : Nat → Int)) : IsOrd h zs := by
  obtain ⟨m, hm⟩ := Option.isSome_iff_exists.1 hs
  rw [hm] at hz
  obtain rfl : zs = m.map (Nat.cast : Nat → Int) := hz
  exact ext_isord (FL_ext _ rfl (Gd.nil h) hm)
theorem is_no {W : World} {hv va : Value} {h : List Op} {xs : List Int} (hs : SlS FO 6 W hv h) (ha : SlS FZ 1 W va xs) (hok : ¬ OkH h) :
    Calls Try.prog 3 #[hv, va] W fun e w' => e = .returned (.bool true) ∧ Below W.heap.size W w' := by
  have m1 := sls_bd ha
  refine calls_pure (Gx.enter (l := []) Try.func3 rfl Try.ntmps3 rfl (Sat.start W) ?_)
  refine Gx.know (m' := [(0, hv), (1, va)]) (.cons rfl (.cons rfl .nil)) ?_
  refine Gx.seq ?_
  refine Gx.region ?_
  refine Gx.val rfl rfl rfl (val_assign rfl rfl) ?_
  refine Gx.done ?_
  refine Gx.thenN ?_
  refine Gx.seq ?_
  refine Gx.region ?_
  refine Gx.val rfl rfl rfl (val_move rfl rfl) ?_
  refine Gx.callB rfl rfl rfl (vs := [hv]) rfl Try.fn9 rfl (R := LinZ h) (fun w H => linear_z (hs.below H.below)) ?_
  rintro _ W2 ⟨a1, n1, c1, b1, e1, zs1, rfl, hA1, hB1, hC1⟩ H3
  have hW4 := H3.below
  have hs5 := hs.below H3.below
  have hs6 := ha.below H3.below
  refine Gx.val rfl rfl rfl (val_move rfl rfl) ?_
  refine Gx.val rfl rfl rfl (val_extract rfl rfl rfl) ?_
  refine Gx.val rfl rfl rfl (val_extract rfl rfl rfl) ?_
  refine Gx.val rfl rfl rfl (val_extract rfl rfl rfl) ?_
  refine Gx.val rfl rfl rfl (val_assign rfl rfl) ?_
  refine Gx.val rfl rfl rfl (val_assign rfl rfl) ?_
  refine Gx.val rfl rfl rfl (val_assign rfl rfl) ?_
  refine Gx.done ?_
  refine Gx.thenN ?_
  refine Gx.seq ?_
  refine Gx.seq ?_
  refine Gx.region ?_
  refine Gx.val rfl rfl rfl (val_move rfl rfl) ?_
  refine Gx.val rfl rfl rfl (val_call (vs := [hv]) rfl Try.fn10 rfl (fun w H => history_no (hs5.below H.below) hok)) ?_
  refine Gx.val rfl rfl rfl (Val.cast (val_not rfl rfl) (v' := .bool true) rfl) ?_
  refine Gx.done ?_
  refine Gx.thenN ?_
  refine Gx.t rfl ?_
  refine Gx.seq ?_
  refine Gx.region ?_
  refine Gx.val rfl rfl rfl (val_move rfl rfl) ?_
  refine Gx.val rfl rfl rfl (val_neq rfl rfl rfl) ?_
  refine Gx.val rfl rfl rfl (val_assign rfl rfl) ?_
  refine Gx.done ?_
  refine Gx.thenN ?_
  refine Gx.ret ?_
  refine Gx.thenR ?_
  refine Gx.ret1B hW4 Try.results3 rfl ?_
  exact congrArg Value.bool (decide_eq_true fun q => hok (hA1.1 q))

theorem is_ok {W : World} {hv va : Value} {h : List Op} {xs : List Int} (hs : SlS FO 6 W hv h) (ha : SlS FZ 1 W va xs) (hok : OkH h) :
    Calls Try.prog 3 #[hv, va] W fun e w' => e = .returned (.bool true) ∧ Below W.heap.size W w' := by
  have m1 := sls_bd ha
  refine calls_pure (Gx.enter (l := []) Try.func3 rfl Try.ntmps3 rfl (Sat.start W) ?_)
  refine Gx.know (m' := [(0, hv), (1, va)]) (.cons rfl (.cons rfl .nil)) ?_
  refine Gx.seq ?_
  refine Gx.region ?_
  refine Gx.val rfl rfl rfl (val_assign rfl rfl) ?_
  refine Gx.done ?_
  refine Gx.thenN ?_
  refine Gx.seq ?_
  refine Gx.region ?_
  refine Gx.val rfl rfl rfl (val_move rfl rfl) ?_
  refine Gx.callB rfl rfl rfl (vs := [hv]) rfl Try.fn9 rfl (R := LinZ h) (fun w H => linear_z (hs.below H.below)) ?_
  rintro _ W2 ⟨a1, n1, c1, b1, e1, zs1, rfl, hA1, hB1, hC1⟩ H3
  have hW4 := H3.below
  have hs5 := hs.below H3.below
  have hs6 := ha.below H3.below
  have e1 := hA1.2 hok
  obtain ⟨i1, i2⟩ := hB1 hok
  refine Gx.val rfl rfl rfl (val_move rfl rfl) ?_
  refine Gx.val rfl rfl rfl (val_extract rfl rfl rfl) ?_
  refine Gx.val rfl rfl rfl (val_extract rfl rfl rfl) ?_
  refine Gx.val rfl rfl rfl (val_extract rfl rfl rfl) ?_
  refine Gx.val rfl rfl rfl (val_assign rfl rfl) ?_
  refine Gx.val rfl rfl rfl (val_assign rfl rfl) ?_
  refine Gx.val rfl rfl rfl (val_assign rfl rfl) ?_
  refine Gx.done ?_
  refine Gx.thenN ?_
  refine Gx.seq ?_
  refine Gx.seq ?_
  refine Gx.region ?_
  refine Gx.val rfl rfl rfl (val_move rfl rfl) ?_
  refine Gx.val rfl rfl rfl (val_call (vs := [hv]) rfl Try.fn10 rfl (fun w H => history_ok (hs5.below H.below) hok)) ?_
  refine Gx.val rfl rfl rfl (Val.cast (val_not rfl rfl) (v' := .bool false) rfl) ?_
  refine Gx.done ?_
  refine Gx.thenN ?_
  refine Gx.f rfl ?_
  refine Gx.skip ?_
  refine Gx.thenN ?_
  refine Gx.seq ?_
  refine Gx.seq ?_
  refine Gx.region ?_
  refine Gx.val rfl rfl rfl (val_move rfl rfl) ?_
  refine Gx.val rfl rfl rfl (val_neq rfl rfl rfl) ?_
  refine Gx.val rfl rfl rfl (val_move rfl rfl) ?_
  refine Gx.slot (t := 22) (v := .bool false) (look_decF rfl (by omega)) ?_
  refine Gx.valg rfl rfl rfl rfl rfl (val_move rfl rfl) ?_
  refine Gx.valg rfl rfl rfl rfl rfl (val_move rfl rfl) ?_
  refine Gx.casesB (t := 24) rfl (fun h7 => ?_) (fun h7 => ?_)
  · refine Gx.valg rfl rfl rfl rfl rfl (val_move rfl rfl) ?_
    refine Gx.valg rfl rfl rfl rfl rfl (val_move rfl rfl) ?_
    refine Gx.effg rfl rfl rfl rfl rfl (eff_callE (vs := [hv, .slice a1 n1 c1]) rfl Try.fn11 rfl (R := fun v => ∃ b : Bool, v = .bool b ∧ (b = true ↔ IsOrd h zs1)) (fun w H => isorder_any hok (hs5.below H.below) (hC1.below H.below))) ?_
    rintro _ _ ⟨⟨b8, rfl, hb4⟩, rfl⟩
    refine Gx.valg rfl rfl rfl rfl rfl (val_not rfl rfl) ?_
    refine Gx.valg rfl rfl rfl rfl rfl (val_pickT rfl rfl rfl) ?_
    refine Gx.val rfl rfl rfl (val_pickF rfl rfl rfl) ?_
    refine Gx.val rfl rfl rfl (val_move rfl rfl) ?_
    refine Gx.casesB (t := 31) rfl (fun h9 => ?_) (fun h9 => ?_)
    · refine Gx.skipg rfl rfl rfl rfl rfl rfl ?_
      refine Gx.skipg rfl rfl rfl rfl rfl rfl ?_
      refine Gx.skipg rfl rfl rfl rfl rfl rfl ?_
      refine Gx.skipu rfl rfl rfl rfl rfl ?_
      refine Gx.skipu rfl rfl rfl rfl rfl ?_
      refine Gx.skipu rfl rfl rfl rfl rfl ?_
      refine Gx.skipg rfl rfl rfl rfl rfl rfl ?_
      refine Gx.val rfl rfl rfl (val_pickT rfl rfl rfl) ?_
      refine Gx.done ?_
      refine Gx.thenN ?_
      refine Gx.t rfl ?_
      refine Gx.seq ?_
      refine Gx.region ?_
      refine Gx.val rfl rfl rfl (val_assign rfl rfl) ?_
      refine Gx.done ?_
      refine Gx.thenN ?_
      refine Gx.ret ?_
      refine Gx.thenR ?_
      refine Gx.ret1B hW4 Try.results3 rfl ?_
      exfalso; have q1 : b1 = true := by simp_all
      have q2 := hb4.2 (told_ord (i1 ▸ q1) i2)
      simp_all
    · refine Gx.valg rfl rfl rfl rfl rfl (val_move rfl rfl) ?_
      refine Gx.valg rfl rfl rfl rfl rfl (val_not rfl rfl) ?_
      refine Gx.valg rfl rfl rfl rfl rfl (val_move rfl rfl) ?_
      refine Gx.slot (t := 34) (v := .bool false) (look_boolF rfl (by simp [h7])) ?_
      refine Gx.skipg rfl rfl rfl rfl rfl rfl ?_
      refine Gx.skipg rfl rfl rfl rfl rfl rfl ?_
      refine Gx.skipg rfl rfl rfl rfl rfl rfl ?_
      refine Gx.valg rfl rfl rfl rfl rfl (val_pickF rfl rfl rfl) ?_
      refine Gx.val rfl rfl rfl (val_pickF rfl rfl rfl) ?_
      refine Gx.done ?_
      refine Gx.thenN ?_
      refine Gx.f rfl ?_
      refine Gx.skip ?_
      refine Gx.thenN ?_
      refine Gx.seq ?_
      refine Gx.seq ?_
      refine Gx.region ?_
      refine Gx.val rfl rfl rfl (val_move rfl rfl) ?_
      refine Gx.val rfl rfl rfl (val_move rfl rfl) ?_
      refine Gx.eff rfl rfl rfl (eff_callE (vs := [hv, va]) rfl Try.fn11 rfl (R := fun v => ∃ b : Bool, v = .bool b ∧ (b = true ↔ IsOrd h xs)) (fun w H => isorder_any hok (hs5.below H.below) (hs6.below H.below))) ?_
      rintro _ _ ⟨⟨b10, rfl, hb6⟩, rfl⟩
      refine Gx.val rfl rfl rfl (val_not rfl rfl) ?_
      refine Gx.done ?_
      refine Gx.thenN ?_
      refine Gx.bool rfl (fun h11 => ?_) (fun h11 => ?_)
      · refine Gx.seq ?_
        refine Gx.region ?_
        refine Gx.val rfl rfl rfl (val_assign rfl rfl) ?_
        refine Gx.done ?_
        refine Gx.thenN ?_
        refine Gx.ret ?_
        refine Gx.thenR ?_
        refine Gx.ret1B hW4 Try.results3 rfl ?_
        rfl
      · refine Gx.skip ?_
        refine Gx.thenN ?_
        refine Gx.seq ?_
        refine Gx.seq ?_
        have hx := hb6.1 (by simpa using h11)
        obtain ⟨j1, j2⟩ := lex_two hok hx i2
        have hbt : b1 = true := by rw [i1]; exact j1
        have hzl := sls_bd hC1
        refine Gx.region ?_
        refine Gx.val rfl rfl rfl (val_assign rfl rfl) ?_
        refine Gx.done ?_
        refine Gx.thenN ?_
        refine Gx.block ?_
        refine Gx.loop (ι := Nat) (fun ξ => (ξ ≤ zs1.length) ∧ (ξ ≤ xs.length) ∧ (∀ q, q < ξ → zs1[q]? = xs[q]?)) (fun ξ => [(0, hv), (1, va), (5, .slice a1 n1 c1), (6, .bool b1), (8, .int .i64 ((ξ : Nat) : Int))]) (fun ξ => []) (fun ξ => zs1.length - ξ) 0 ⟨by first | omega | (dsimp only; omega), by first | omega | (dsimp only; omega), by omega⟩ ((.cons rfl (.cons rfl (.cons rfl (.cons rfl (.cons rfl .nil)))))) rfl ?_
        rintro k ⟨hk1, hk2, he⟩
        refine Gx.know (m' := [(0, hv), (1, va), (5, .slice a1 n1 c1), (6, .bool b1), (8, .int .i64 ((k : Nat) : Int))]) (.cons rfl (.cons rfl (.cons rfl (.cons rfl (.cons rfl .nil))))) (Gx.norm (l' := []) rfl ?_)
        refine Gx.seq ?_
        refine Gx.seq ?_
        refine Gx.region ?_
        refine Gx.val rfl rfl rfl (val_move rfl rfl) ?_
        refine Gx.val rfl rfl rfl (val_move rfl rfl) ?_
        refine Gx.val rfl rfl rfl (val_len rfl Try.underlying23 rfl (len_base hC1)) ?_
        refine Gx.val rfl rfl rfl (val_lss rfl rfl rfl) ?_
        refine Gx.val rfl rfl rfl (val_move rfl rfl) ?_
        refine Gx.cases (t := 48) rfl (fun h12 => ?_) (fun h12 => ?_)
        · refine Gx.valg rfl rfl rfl rfl rfl (val_move rfl rfl) ?_
          refine Gx.valg rfl rfl rfl rfl rfl (val_move rfl rfl) ?_
          refine Gx.valg rfl rfl rfl rfl rfl (val_len rfl Try.underlying23 rfl (len_base hs6)) ?_
          refine Gx.valg rfl rfl rfl rfl rfl (val_lss rfl rfl rfl) ?_
          refine Gx.val rfl rfl rfl (val_pickT rfl rfl rfl) ?_
          refine Gx.done ?_
          refine Gx.thenN ?_
          refine Gx.dec rfl (fun h13 => ?_) (fun h13 => ?_)
          · refine Gx.skip ?_
            refine Gx.thenN ?_
            refine Gx.seq ?_
            refine Gx.block ?_
            refine Gx.seq ?_
            refine Gx.regionQ Try.mixed (by kernel_rfl) ?_
            refine Gq.val rfl rfl rfl (val_move rfl rfl) ?_
            refine Gq.val rfl rfl rfl (val_move rfl rfl) ?_
            obtain ⟨x14, hx14⟩ := get_of_lt (xs := zs1) (k := k) (by omega)
            refine Gq.val rfl rfl rfl (val_ixa rfl Try.underlying23 Try.ty3 rfl rfl (j := k) (rfl) (reach_base hC1 hx14)) ?_
            refine Gq.val rfl rfl rfl (val_load rfl Try.ty3 rfl rfl (cell_base (i := 0) hC1 hx14 rfl)) ?_
            refine Gq.val rfl rfl rfl (val_move rfl rfl) ?_
            refine Gq.val rfl rfl rfl (val_move rfl rfl) ?_
            obtain ⟨x15, hx15⟩ := get_of_lt (xs := xs) (k := k) (by omega)
            refine Gq.val rfl rfl rfl (val_ixa rfl Try.underlying23 Try.ty3 rfl rfl (j := k) (rfl) (reach_base hs6 hx15)) ?_
            refine Gq.val rfl rfl rfl (val_load rfl Try.ty3 rfl rfl (cell_base (i := 0) hs6 hx15 rfl)) ?_
            refine Gq.val rfl rfl rfl (val_neq rfl rfl rfl) ?_
            refine Gq.done ?_
            refine Gx.thenN ?_
            refine Gx.dec rfl (fun h16 => ?_) (fun h16 => ?_)
            · refine Gx.seq ?_
              refine Gx.regionQ Try.mixed (by kernel_rfl) ?_
              refine Gq.val rfl rfl rfl (val_move rfl rfl) ?_
              refine Gq.val rfl rfl rfl (val_move rfl rfl) ?_
              refine Gq.slot (t := 66) (v := .bool true) (look_boolT rfl (hbt)) ?_
              refine Gq.valg rfl rfl rfl rfl rfl (val_move rfl rfl) ?_
              refine Gq.valg rfl rfl rfl rfl rfl (val_move rfl rfl) ?_
              refine Gq.valg rfl rfl rfl rfl rfl (val_ixa rfl Try.underlying23 Try.ty3 rfl rfl (j := k) (rfl) (reach_base hC1 hx14)) ?_
              refine Gq.valg rfl rfl rfl rfl rfl (val_load rfl Try.ty3 rfl rfl (cell_base (i := 0) hC1 hx14 rfl)) ?_
              refine Gq.valg rfl rfl rfl rfl rfl (val_move rfl rfl) ?_
              refine Gq.valg rfl rfl rfl rfl rfl (val_move rfl rfl) ?_
              refine Gq.valg rfl rfl rfl rfl rfl (val_ixa rfl Try.underlying23 Try.ty3 rfl rfl (j := k) (rfl) (reach_base hs6 hx15)) ?_
              refine Gq.valg rfl rfl rfl rfl rfl (val_load rfl Try.ty3 rfl rfl (cell_base (i := 0) hs6 hx15 rfl)) ?_
              refine Gq.valg rfl rfl rfl rfl rfl (val_lss rfl rfl rfl) ?_
              refine Gq.val rfl rfl rfl (val_pickT rfl rfl rfl) ?_
              refine Gq.val rfl rfl rfl (val_assign rfl rfl) ?_
              refine Gq.done ?_
              refine Gx.thenN ?_
              refine Gx.ret ?_
              refine Gx.blkR ?_
              refine Gx.thenR ?_
              refine Gx.thenR ?_
              refine Gx.blkR ?_
              refine Gx.thenR ?_
              refine Gx.ret1B hW4 Try.results3 rfl ?_
              exact congrArg Value.bool (decide_eq_true (by
                  rcases j2 with ⟨q, x, y, p1, p2, p3, p4⟩ | ⟨p1, p2⟩
                  · rcases Nat.lt_trichotomy q k with hq | rfl | hq
                    · have := he q hq; rw [p2, p3] at this; cases this; omega
                    · cases hx14.symm.trans p2; cases hx15.symm.trans p3; exact p4
                    · have := p1 k hq; rw [hx14, hx15] at this; cases this; omega
                  · have := p2 k (by omega); rw [hx14, hx15] at this; cases this; omega))
            · refine Gx.skip ?_
              refine Gx.blkN ?_
              refine Gx.thenN ?_
              refine Gx.region ?_
              refine Gx.val rfl rfl rfl (val_move rfl rfl) ?_
              refine Gx.val rfl rfl rfl (val_add rfl rfl rfl (r := ((k + 1 : Nat) : Int)) (w64 (by omega) (by omega))) ?_
              refine Gx.val rfl rfl rfl (val_assign rfl rfl) ?_
              refine Gx.done ?_
              refine Gx.thenN ?_
              exact Gx.round (k + 1) ⟨by first | omega | (dsimp only; omega), by first | omega | (dsimp only; omega), fun q hq => by rcases Nat.lt_or_eq_of_le (Nat.le_of_lt_succ hq) with h | rfl; (exact he q h); (rw [hx14, hx15]; exact congrArg some (by omega))⟩ (by first | omega | (dsimp only; omega)) ((.cons rfl (.cons rfl (.cons rfl (.cons rfl (.cons rfl .nil)))))) rfl
          · refine Gx.exit ?_
            refine Gx.thenE ?_
            refine Gx.thenE ?_
            refine Gx.blkE ?_
            refine Gx.thenN ?_
            refine Gx.seq ?_
            refine Gx.region ?_
            refine Gx.val rfl rfl rfl (val_move rfl rfl) ?_
            refine Gx.val rfl rfl rfl (val_move rfl rfl) ?_
            refine Gx.slot (t := 78) (v := .bool true) (look_boolT rfl (hbt)) ?_
            refine Gx.valg rfl rfl rfl rfl rfl (val_move rfl rfl) ?_
            refine Gx.valg rfl rfl rfl rfl rfl (val_len rfl Try.underlying23 rfl (len_base hC1)) ?_
            refine Gx.valg rfl rfl rfl rfl rfl (val_move rfl rfl) ?_
            refine Gx.valg rfl rfl rfl rfl rfl (val_len rfl Try.underlying23 rfl (len_base hs6)) ?_
            refine Gx.valg rfl rfl rfl rfl rfl (val_leq rfl rfl rfl) ?_
            refine Gx.val rfl rfl rfl (val_pickT rfl rfl rfl) ?_
            refine Gx.val rfl rfl rfl (val_assign rfl rfl) ?_
            refine Gx.done ?_
            refine Gx.thenN ?_
            refine Gx.ret ?_
            refine Gx.ret1B hW4 Try.results3 rfl ?_
            exact congrArg Value.bool (decide_eq_true (by
                rcases j2 with ⟨q, x, y, p1, p2, p3, p4⟩ | ⟨p1, p2⟩
                · have l1 := (List.getElem?_eq_some_iff.1 p2).1
                  have l2 := (List.getElem?_eq_some_iff.1 p3).1
                  have := he q (by omega); rw [p2, p3] at this; cases this; omega
                · omega))
        · refine Gx.skipg rfl rfl rfl rfl rfl rfl ?_
          refine Gx.skipg rfl rfl rfl rfl rfl rfl ?_
          refine Gx.skipg rfl rfl rfl rfl rfl rfl ?_
          refine Gx.skipg rfl rfl rfl rfl rfl rfl ?_
          refine Gx.val rfl rfl rfl (val_pickF rfl rfl rfl) ?_
          refine Gx.done ?_
          refine Gx.thenN ?_
          refine Gx.f rfl ?_
          refine Gx.exit ?_
          refine Gx.thenE ?_
          refine Gx.thenE ?_
          refine Gx.blkE ?_
          refine Gx.thenN ?_
          refine Gx.seq ?_
          refine Gx.region ?_
          refine Gx.val rfl rfl rfl (val_move rfl rfl) ?_
          refine Gx.val rfl rfl rfl (val_move rfl rfl) ?_
          refine Gx.slot (t := 78) (v := .bool true) (look_boolT rfl (hbt)) ?_
          refine Gx.valg rfl rfl rfl rfl rfl (val_move rfl rfl) ?_
          refine Gx.valg rfl rfl rfl rfl rfl (val_len rfl Try.underlying23 rfl (len_base hC1)) ?_
          refine Gx.valg rfl rfl rfl rfl rfl (val_move rfl rfl) ?_
          refine Gx.valg rfl rfl rfl rfl rfl (val_len rfl Try.underlying23 rfl (len_base hs6)) ?_
          refine Gx.valg rfl rfl rfl rfl rfl (val_leq rfl rfl rfl) ?_
          refine Gx.val rfl rfl rfl (val_pickT rfl rfl rfl) ?_
          refine Gx.val rfl rfl rfl (val_assign rfl rfl) ?_
          refine Gx.done ?_
          refine Gx.thenN ?_
          refine Gx.ret ?_
          refine Gx.ret1B hW4 Try.results3 rfl ?_
          exact congrArg Value.bool (decide_eq_true (by
              rcases j2 with ⟨q, x, y, p1, p2, p3, p4⟩ | ⟨p1, p2⟩
              · have l1 := (List.getElem?_eq_some_iff.1 p2).1
                have l2 := (List.getElem?_eq_some_iff.1 p3).1
                have := he q (by omega); rw [p2, p3] at this; cases this; omega
              · omega))
  · refine Gx.skipg rfl rfl rfl rfl rfl rfl ?_
    refine Gx.skipg rfl rfl rfl rfl rfl rfl ?_
    refine Gx.skipg rfl rfl rfl rfl rfl rfl ?_
    refine Gx.skipg rfl rfl rfl rfl rfl rfl ?_
    refine Gx.valg rfl rfl rfl rfl rfl (val_pickF rfl rfl rfl) ?_
    refine Gx.val rfl rfl rfl (val_pickF rfl rfl rfl) ?_
    refine Gx.val rfl rfl rfl (val_move rfl rfl) ?_
    refine Gx.valg rfl rfl rfl rfl rfl (val_move rfl rfl) ?_
    refine Gx.valg rfl rfl rfl rfl rfl (val_not rfl rfl) ?_
    refine Gx.valg rfl rfl rfl rfl rfl (val_move rfl rfl) ?_
    refine Gx.slot (t := 34) (v := .bool true) (look_boolT rfl (by simp [h7])) ?_
    refine Gx.valg rfl rfl rfl rfl rfl (val_move rfl rfl) ?_
    refine Gx.valg rfl rfl rfl rfl rfl (val_len rfl Try.underlying23 rfl (len_base hC1)) ?_
    refine Gx.valg rfl rfl rfl rfl rfl (val_gtr rfl rfl rfl) ?_
    refine Gx.valg rfl rfl rfl rfl rfl (val_pickT rfl rfl rfl) ?_
    refine Gx.val rfl rfl rfl (val_pickF rfl rfl rfl) ?_
    refine Gx.done ?_
    refine Gx.thenN ?_
    refine Gx.dec rfl (fun h17 => ?_) (fun h17 => ?_)
    · refine Gx.seq ?_
      refine Gx.region ?_
      refine Gx.val rfl rfl rfl (val_assign rfl rfl) ?_
      refine Gx.done ?_
      refine Gx.thenN ?_
      refine Gx.ret ?_
      refine Gx.thenR ?_
      refine Gx.ret1B hW4 Try.results3 rfl ?_
      exfalso; have q1 : b1 = false := by simp_all
      have q3 : FL h [] = none := by rw [q1] at i1; exact Option.not_isSome_iff_eq_none.1 (by simp [← i1])
      rw [q3] at i2
      have q4 : zs1.length = 0 := by rw [i2]; rfl
      omega
    · refine Gx.skip ?_
      refine Gx.thenN ?_
      refine Gx.seq ?_
      refine Gx.seq ?_
      refine Gx.region ?_
      refine Gx.val rfl rfl rfl (val_move rfl rfl) ?_
      refine Gx.val rfl rfl rfl (val_move rfl rfl) ?_
      refine Gx.eff rfl rfl rfl (eff_callE (vs := [hv, va]) rfl Try.fn11 rfl (R := fun v => ∃ b : Bool, v = .bool b ∧ (b = true ↔ IsOrd h xs)) (fun w H => isorder_any hok (hs5.below H.below) (hs6.below H.below))) ?_
      rintro _ _ ⟨⟨b18, rfl, hb6⟩, rfl⟩
      refine Gx.val rfl rfl rfl (val_not rfl rfl) ?_
      refine Gx.done ?_
      refine Gx.thenN ?_
      refine Gx.bool rfl (fun h19 => ?_) (fun h19 => ?_)
      · refine Gx.seq ?_
        refine Gx.region ?_
        refine Gx.val rfl rfl rfl (val_assign rfl rfl) ?_
        refine Gx.done ?_
        refine Gx.thenN ?_
        refine Gx.ret ?_
        refine Gx.thenR ?_
        refine Gx.ret1B hW4 Try.results3 rfl ?_
        rfl
      · refine Gx.skip ?_
        refine Gx.thenN ?_
        refine Gx.seq ?_
        refine Gx.seq ?_
        have hx := hb6.1 (by simpa using h19)
        obtain ⟨j1, j2⟩ := lex_two hok hx i2
        have hbt : b1 = true := by rw [i1]; exact j1
        have hzl := sls_bd hC1
        refine Gx.region ?_
        refine Gx.val rfl rfl rfl (val_assign rfl rfl) ?_
        refine Gx.done ?_
        refine Gx.thenN ?_
        refine Gx.block ?_
        refine Gx.loop (ι := Nat) (fun ξ => (ξ ≤ zs1.length) ∧ (ξ ≤ xs.length) ∧ (∀ q, q < ξ → zs1[q]? = xs[q]?)) (fun ξ => [(0, hv), (1, va), (5, .slice a1 n1 c1), (6, .bool b1), (8, .int .i64 ((ξ : Nat) : Int))]) (fun ξ => []) (fun ξ => zs1.length - ξ) 0 ⟨by first | omega | (dsimp only; omega), by first | omega | (dsimp only; omega), by omega⟩ ((.cons rfl (.cons rfl (.cons rfl (.cons rfl (.cons rfl .nil)))))) rfl ?_
        rintro k ⟨hk1, hk2, he⟩
        refine Gx.know (m' := [(0, hv), (1, va), (5, .slice a1 n1 c1), (6, .bool b1), (8, .int .i64 ((k : Nat) : Int))]) (.cons rfl (.cons rfl (.cons rfl (.cons rfl (.cons rfl .nil))))) (Gx.norm (l' := []) rfl ?_)
        refine Gx.seq ?_
        refine Gx.seq ?_
        refine Gx.region ?_
        refine Gx.val rfl rfl rfl (val_move rfl rfl) ?_
        refine Gx.val rfl rfl rfl (val_move rfl rfl) ?_
        refine Gx.val rfl rfl rfl (val_len rfl Try.underlying23 rfl (len_base hC1)) ?_
        refine Gx.val rfl rfl rfl (val_lss rfl rfl rfl) ?_
        refine Gx.val rfl rfl rfl (val_move rfl rfl) ?_
        refine Gx.cases (t := 48) rfl (fun h20 => ?_) (fun h20 => ?_)
        · refine Gx.valg rfl rfl rfl rfl rfl (val_move rfl rfl) ?_
          refine Gx.valg rfl rfl rfl rfl rfl (val_move rfl rfl) ?_
          refine Gx.valg rfl rfl rfl rfl rfl (val_len rfl Try.underlying23 rfl (len_base hs6)) ?_
          refine Gx.valg rfl rfl rfl rfl rfl (val_lss rfl rfl rfl) ?_
          refine Gx.val rfl rfl rfl (val_pickT rfl rfl rfl) ?_
          refine Gx.done ?_
          refine Gx.thenN ?_
          refine Gx.dec rfl (fun h21 => ?_) (fun h21 => ?_)
          · refine Gx.skip ?_
            refine Gx.thenN ?_
            refine Gx.seq ?_
            refine Gx.block ?_
            refine Gx.seq ?_
            refine Gx.regionQ Try.mixed (by kernel_rfl) ?_
            refine Gq.val rfl rfl rfl (val_move rfl rfl) ?_
            refine Gq.val rfl rfl rfl (val_move rfl rfl) ?_
            obtain ⟨x22, hx22⟩ := get_of_lt (xs := zs1) (k := k) (by omega)
            refine Gq.val rfl rfl rfl (val_ixa rfl Try.underlying23 Try.ty3 rfl rfl (j := k) (rfl) (reach_base hC1 hx22)) ?_
            refine Gq.val rfl rfl rfl (val_load rfl Try.ty3 rfl rfl (cell_base (i := 0) hC1 hx22 rfl)) ?_
            refine Gq.val rfl rfl rfl (val_move rfl rfl) ?_
            refine Gq.val rfl rfl rfl (val_move rfl rfl) ?_
            obtain ⟨x23, hx23⟩ := get_of_lt (xs := xs) (k := k) (by omega)
            refine Gq.val rfl rfl rfl (val_ixa rfl Try.underlying23 Try.ty3 rfl rfl (j := k) (rfl) (reach_base hs6 hx23)) ?_
            refine Gq.val rfl rfl rfl (val_load rfl Try.ty3 rfl rfl (cell_base (i := 0) hs6 hx23 rfl)) ?_
            refine Gq.val rfl rfl rfl (val_neq rfl rfl rfl) ?_
            refine Gq.done ?_
            refine Gx.thenN ?_
            refine Gx.dec rfl (fun h24 => ?_) (fun h24 => ?_)
            · refine Gx.seq ?_
              refine Gx.regionQ Try.mixed (by kernel_rfl) ?_
              refine Gq.val rfl rfl rfl (val_move rfl rfl) ?_
              refine Gq.val rfl rfl rfl (val_move rfl rfl) ?_
              refine Gq.slot (t := 66) (v := .bool true) (look_boolT rfl (hbt)) ?_
              refine Gq.valg rfl rfl rfl rfl rfl (val_move rfl rfl) ?_
              refine Gq.valg rfl rfl rfl rfl rfl (val_move rfl rfl) ?_
              refine Gq.valg rfl rfl rfl rfl rfl (val_ixa rfl Try.underlying23 Try.ty3 rfl rfl (j := k) (rfl) (reach_base hC1 hx22)) ?_
              refine Gq.valg rfl rfl rfl rfl rfl (val_load rfl Try.ty3 rfl rfl (cell_base (i := 0) hC1 hx22 rfl)) ?_
              refine Gq.valg rfl rfl rfl rfl rfl (val_move rfl rfl) ?_
              refine Gq.valg rfl rfl rfl rfl rfl (val_move rfl rfl) ?_
              refine Gq.valg rfl rfl rfl rfl rfl (val_ixa rfl Try.underlying23 Try.ty3 rfl rfl (j := k) (rfl) (reach_base hs6 hx23)) ?_
              refine Gq.valg rfl rfl rfl rfl rfl (val_load rfl Try.ty3 rfl rfl (cell_base (i := 0) hs6 hx23 rfl)) ?_
              refine Gq.valg rfl rfl rfl rfl rfl (val_lss rfl rfl rfl) ?_
              refine Gq.val rfl rfl rfl (val_pickT rfl rfl rfl) ?_
              refine Gq.val rfl rfl rfl (val_assign rfl rfl) ?_
              refine Gq.done ?_
              refine Gx.thenN ?_
              refine Gx.ret ?_
              refine Gx.blkR ?_
              refine Gx.thenR ?_
              refine Gx.thenR ?_
              refine Gx.blkR ?_
              refine Gx.thenR ?_
              refine Gx.ret1B hW4 Try.results3 rfl ?_
              exact congrArg Value.bool (decide_eq_true (by
                  rcases j2 with ⟨q, x, y, p1, p2, p3, p4⟩ | ⟨p1, p2⟩
                  · rcases Nat.lt_trichotomy q k with hq | rfl | hq
                    · have := he q hq; rw [p2, p3] at this; cases this; omega
                    · cases hx22.symm.trans p2; cases hx23.symm.trans p3; exact p4
                    · have := p1 k hq; rw [hx22, hx23] at this; cases this; omega
                  · have := p2 k (by omega); rw [hx22, hx23] at this; cases this; omega))
            · refine Gx.skip ?_
              refine Gx.blkN ?_
              refine Gx.thenN ?_
              refine Gx.region ?_
              refine Gx.val rfl rfl rfl (val_move rfl rfl) ?_
              refine Gx.val rfl rfl rfl (val_add rfl rfl rfl (r := ((k + 1 : Nat) : Int)) (w64 (by omega) (by omega))) ?_
              refine Gx.val rfl rfl rfl (val_assign rfl rfl) ?_
              refine Gx.done ?_
              refine Gx.thenN ?_
              exact Gx.round (k + 1) ⟨by first | omega | (dsimp only; omega), by first | omega | (dsimp only; omega), fun q hq => by rcases Nat.lt_or_eq_of_le (Nat.le_of_lt_succ hq) with h | rfl; (exact he q h); (rw [hx22, hx23]; exact congrArg some (by omega))⟩ (by first | omega | (dsimp only; omega)) ((.cons rfl (.cons rfl (.cons rfl (.cons rfl (.cons rfl .nil)))))) rfl
          · refine Gx.exit ?_
            refine Gx.thenE ?_
            refine Gx.thenE ?_
            refine Gx.blkE ?_
            refine Gx.thenN ?_
            refine Gx.seq ?_
            refine Gx.region ?_
            refine Gx.val rfl rfl rfl (val_move rfl rfl) ?_
            refine Gx.val rfl rfl rfl (val_move rfl rfl) ?_
            refine Gx.slot (t := 78) (v := .bool true) (look_boolT rfl (hbt)) ?_
            refine Gx.valg rfl rfl rfl rfl rfl (val_move rfl rfl) ?_
            refine Gx.valg rfl rfl rfl rfl rfl (val_len rfl Try.underlying23 rfl (len_base hC1)) ?_
            refine Gx.valg rfl rfl rfl rfl rfl (val_move rfl rfl) ?_
            refine Gx.valg rfl rfl rfl rfl rfl (val_len rfl Try.underlying23 rfl (len_base hs6)) ?_
            refine Gx.valg rfl rfl rfl rfl rfl (val_leq rfl rfl rfl) ?_
            refine Gx.val rfl rfl rfl (val_pickT rfl rfl rfl) ?_
            refine Gx.val rfl rfl rfl (val_assign rfl rfl) ?_
            refine Gx.done ?_
            refine Gx.thenN ?_
            refine Gx.ret ?_
            refine Gx.ret1B hW4 Try.results3 rfl ?_
            exact congrArg Value.bool (decide_eq_true (by
                rcases j2 with ⟨q, x, y, p1, p2, p3, p4⟩ | ⟨p1, p2⟩
                · have l1 := (List.getElem?_eq_some_iff.1 p2).1
                  have l2 := (List.getElem?_eq_some_iff.1 p3).1
                  have := he q (by omega); rw [p2, p3] at this; cases this; omega
                · omega))
        · refine Gx.skipg rfl rfl rfl rfl rfl rfl ?_
          refine Gx.skipg rfl rfl rfl rfl rfl rfl ?_
          refine Gx.skipg rfl rfl rfl rfl rfl rfl ?_
          refine Gx.skipg rfl rfl rfl rfl rfl rfl ?_
          refine Gx.val rfl rfl rfl (val_pickF rfl rfl rfl) ?_
          refine Gx.done ?_
          refine Gx.thenN ?_
          refine Gx.f rfl ?_
          refine Gx.exit ?_
          refine Gx.thenE ?_
          refine Gx.thenE ?_
          refine Gx.blkE ?_
          refine Gx.thenN ?_
          refine Gx.seq ?_
          refine Gx.region ?_
          refine Gx.val rfl rfl rfl (val_move rfl rfl) ?_
          refine Gx.val rfl rfl rfl (val_move rfl rfl) ?_
          refine Gx.slot (t := 78) (v := .bool true) (look_boolT rfl (hbt)) ?_
          refine Gx.valg rfl rfl rfl rfl rfl (val_move rfl rfl) ?_
          refine Gx.valg rfl rfl rfl rfl rfl (val_len rfl Try.underlying23 rfl (len_base hC1)) ?_
          refine Gx.valg rfl rfl rfl rfl rfl (val_move rfl rfl) ?_
          refine Gx.valg rfl rfl rfl rfl rfl (val_len rfl Try.underlying23 rfl (len_base hs6)) ?_
          refine Gx.valg rfl rfl rfl rfl rfl (val_leq rfl rfl rfl) ?_
          refine Gx.val rfl rfl rfl (val_pickT rfl rfl rfl) ?_
          refine Gx.val rfl rfl rfl (val_assign rfl rfl) ?_
          refine Gx.done ?_
          refine Gx.thenN ?_
          refine Gx.ret ?_
          refine Gx.ret1B hW4 Try.results3 rfl ?_
          exact congrArg Value.bool (decide_eq_true (by
              rcases j2 with ⟨q, x, y, p1, p2, p3, p4⟩ | ⟨p1, p2⟩
              · have l1 := (List.getElem?_eq_some_iff.1 p2).1
                have l2 := (List.getElem?_eq_some_iff.1 p3).1
                have := he q (by omega); rw [p2, p3] at this; cases this; omega
              · omega))

theorem is_any {W : World} {hv va : Value} {h : List Op} {xs : List Int} (hs : SlS FO 6 W hv h) (ha : SlS FZ 1 W va xs)  :
    Calls Try.prog 3 #[hv, va] W fun e w' => e = .returned (.bool true) ∧ Below W.heap.size W w' := by
  by_cases hok : OkH h
  · exact is_ok hs ha hok
  · exact is_no hs ha hok

end Go.Proofs.Ytocgifddjpbmlaa
