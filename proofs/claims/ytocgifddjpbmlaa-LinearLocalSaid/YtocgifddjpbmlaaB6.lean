/- There is an order of all just if there is one of each register. No condition. -/
import Derived.Test.YtocgifddjpbmlaaM6
namespace Go.Proofs.Ytocgifddjpbmlaa
open Go.RowKit
set_option linter.unusedVariables false
set_option linter.unusedSimpArgs false
set_option maxRecDepth 100000

theorem of_snoc {h : List Op} {r : Int} {k : Nat} {x : Op} (hx : h[k]? = some x) : ofL (h.take (k + 1)) r = ofL (h.take k) r ++ (if x.reg = r then [x] else []) := by
  unfold ofL
  rw [take_of hx, List.filter_append]
  by_cases e : x.reg = r <;> simp [ofP, e]
theorem of_any {W w : World} {hv : Value} {h : List Op} {R : Hp} (r : Int) (hs : SlS FO 6 W hv h) (hbig : h.length * 48 ≤ 140737488351232) (H : Sat W w R) :
    Calls Try.prog 12 #[hv, .int .i64 r] w (Ret W fun v l9 => ∃ lv, IsS lv ∧ lv = v ∧ sep l9 = Hp.own FO 6 lv (ofL h r) * R) := by
  have hlen := sls_bd hs
  refine Gx.enter (l := [R]) Try.func12 rfl Try.ntmps12 rfl ((H.cast (Hp.mul_one _).symm)) ?_
  refine Gx.know (m' := [(0, hv), (1, .int .i64 r)]) (.cons rfl (.cons rfl .nil)) ?_
  refine Gx.seq ?_
  refine Gx.region ?_
  refine Gx.val rfl rfl rfl (val_assign rfl rfl) ?_
  refine Gx.done ?_
  refine Gx.thenN ?_
  refine Gx.seq ?_
  refine Gx.region ?_
  refine Gx.val rfl rfl rfl (val_assign rfl rfl) ?_
  refine Gx.done ?_
  refine Gx.thenN ?_
  refine Gx.seq ?_
  refine Gx.seq ?_
  refine Gx.ownNil FO 6 ?_
  refine Gx.region ?_
  refine Gx.val rfl rfl rfl (val_move rfl rfl) ?_
  refine Gx.val rfl rfl rfl (val_len rfl Try.underlying22 rfl (len_base hs)) ?_
  refine Gx.val rfl rfl rfl (val_move rfl rfl) ?_
  refine Gx.done ?_
  refine Gx.thenN ?_
  refine Gx.block ?_
  refine Gx.loop (ι := Nat × Value) (fun ξ => (ξ.1 ≤ h.length) ∧ (IsS ξ.2)) (fun ξ => [(1, .int .i64 r), (5, ξ.2), (8, hv), (9, .int .i64 ((h.length : Nat) : Int)), (10, .int .i64 ((ξ.1 : Nat) : Int))]) (fun ξ => [Hp.own FO 6 ξ.2 (ofL (h.take ξ.1) r), R]) (fun ξ => h.length - ξ.1) (0, (.slice none 0 0)) ⟨by first | omega | (dsimp only; omega), ⟨none, 0, 0, rfl⟩⟩ ((.cons rfl (.cons rfl (.cons rfl (.cons rfl (.cons rfl .nil)))))) rfl ?_
  rintro ⟨k, lv⟩ ⟨hk, hil⟩
  dsimp only at hk hil
  refine Gx.know (m' := [(1, .int .i64 r), (5, lv), (8, hv), (9, .int .i64 ((h.length : Nat) : Int)), (10, .int .i64 ((k : Nat) : Int))]) (.cons rfl (.cons rfl (.cons rfl (.cons rfl (.cons rfl .nil))))) (Gx.norm (l' := [Hp.own FO 6 lv (ofL (h.take k) r), R]) rfl ?_)
  have hfl : (ofL (h.take k) r).length ≤ h.length := Nat.le_trans (List.length_filter_le ..) (by rw [List.length_take]; omega)
  refine Gx.seq ?_
  refine Gx.region ?_
  refine Gx.val rfl rfl rfl (val_lss rfl rfl rfl) ?_
  refine Gx.done ?_
  refine Gx.thenN ?_
  refine Gx.seq ?_
  refine Gx.dec rfl (fun h1 => ?_) (fun h1 => ?_)
  · refine Gx.skip ?_
    refine Gx.thenN ?_
    refine Gx.seq ?_
    refine Gx.block ?_
    refine Gx.seq ?_
    refine Gx.region ?_
    obtain ⟨x2, hx2⟩ := get_of_lt (xs := h) (k := k) (by omega)
    refine Gx.val rfl rfl rfl (val_ixa rfl Try.underlying22 Try.ty31 rfl rfl (j := k) (rfl) (reach_base hs hx2)) ?_
    refine Gx.val rfl rfl rfl (Val.cast (val_loadA rfl Try.ty31 rfl rfl rfl (cells_base hs hx2)) (v' := .agg #[.int .i64 x2.who, .int .i64 x2.reg, .bool x2.write, .int .i64 x2.val, .int .i64 x2.fr, .int .i64 x2.to]) rfl) ?_
    refine Gx.eff rfl rfl rfl (eff_alloc rfl Try.ty31 (vs := [.int .i64 0, .int .i64 0, .bool false, .int .i64 0, .int .i64 0, .int .i64 0]) rfl) ?_
    rintro _ _ ⟨b3, rfl, rfl⟩
    refine Gx.eff0 rfl rfl (eff_store rfl Try.ty31 rfl rfl (us := [.int .i64 x2.who, .int .i64 x2.reg, .bool x2.write, .int .i64 x2.val, .int .i64 x2.fr, .int .i64 x2.to]) rfl rfl rfl (k := 0) rfl (rfl) (vs' := [.int .i64 x2.who, .int .i64 x2.reg, .bool x2.write, .int .i64 x2.val, .int .i64 x2.fr, .int .i64 x2.to]) (rfl) (l' := [Hp.rec_ b3 [.int .i64 x2.who, .int .i64 x2.reg, .bool x2.write, .int .i64 x2.val, .int .i64 x2.fr, .int .i64 x2.to], Hp.own FO 6 lv (ofL (h.take k) r), R]) rfl) ?_
    rintro _ _ rfl
    refine Gx.done ?_
    refine Gx.thenN ?_
    refine Gx.seq ?_
    refine Gx.region ?_
    refine Gx.val rfl rfl rfl (Val.cast (val_fieldAddr rfl Try.underlying31 rfl Try.ty3 rfl rfl) (v' := ptr b3 1) rfl) ?_
    refine Gx.val rfl rfl rfl (val_load rfl Try.ty3 rfl rfl (cell_rec (k := 0) rfl rfl)) ?_
    refine Gx.val rfl rfl rfl (val_move rfl rfl) ?_
    refine Gx.val rfl rfl rfl (val_eql rfl rfl rfl) ?_
    refine Gx.done ?_
    refine Gx.thenN ?_
    refine Gx.dec rfl (fun h4 => ?_) (fun h4 => ?_)
    · refine Gx.region ?_
      refine Gx.val rfl rfl rfl (val_move rfl rfl) ?_
      refine Gx.val rfl rfl rfl (Val.cast (val_loadA rfl Try.ty31 rfl rfl rfl (cells_rec (k := 0) rfl)) (v' := .agg #[.int .i64 x2.who, .int .i64 x2.reg, .bool x2.write, .int .i64 x2.val, .int .i64 x2.fr, .int .i64 x2.to]) rfl) ?_
      refine Gx.eff rfl rfl rfl (eff_buildSlice rfl (qs := [(0, .agg #[.int .i64 x2.who, .int .i64 x2.reg, .bool x2.write, .int .i64 x2.val, .int .i64 x2.fr, .int .i64 x2.to])]) rfl rfl (cs := #[.int .i64 x2.who, .int .i64 x2.reg, .bool x2.write, .int .i64 x2.val, .int .i64 x2.fr, .int .i64 x2.to]) (vs := [.int .i64 x2.who, .int .i64 x2.reg, .bool x2.write, .int .i64 x2.val, .int .i64 x2.fr, .int .i64 x2.to]) (E := 31) rfl (fun w => by first | (go_simp; done) | (go_simp; rfl))) ?_
      rintro _ _ ⟨b5, rfl, rfl⟩
      refine Gx.eff rfl rfl rfl (eff_push (r := x2) rfl Try.eO FO_len FO_one rfl rfl (k := 0) rfl rfl (k' := 1) rfl (by omega) (by omega)) ?_
      rintro v6 _ ⟨hiv6, rfl⟩
      refine Gx.norm (l' := [Hp.rec_ b3 [.int .i64 x2.who, .int .i64 x2.reg, .bool x2.write, .int .i64 x2.val, .int .i64 x2.fr, .int .i64 x2.to], Hp.own FO 6 v6 ((ofL (h.take k) r) ++ [x2]), R]) rfl ?_
      refine Gx.val rfl rfl rfl (val_assign rfl rfl) ?_
      refine Gx.done ?_
      refine Gx.blkN ?_
      refine Gx.thenN ?_
      refine Gx.region ?_
      refine Gx.val rfl rfl rfl (val_add rfl rfl rfl (r := ((k + 1 : Nat) : Int)) (w64 (by omega) (by omega))) ?_
      refine Gx.val rfl rfl rfl (val_move rfl rfl) ?_
      refine Gx.done ?_
      refine Gx.thenN ?_
      refine Gx.drop 0 rfl ?_
      refine Gx.norm (l' := [Hp.own FO 6 v6 (ofL (h.take (k + 1)) r), R]) (by rw [of_snoc hx2, if_pos h4] <;> rfl) ?_
      exact Gx.round (k + 1, v6) ⟨by first | omega | (dsimp only; omega), hiv6⟩ (by first | omega | (dsimp only; omega)) ((.cons rfl (.cons rfl (.cons rfl (.cons rfl (.cons rfl .nil)))))) rfl
    · refine Gx.skip ?_
      refine Gx.blkN ?_
      refine Gx.thenN ?_
      refine Gx.region ?_
      refine Gx.val rfl rfl rfl (val_add rfl rfl rfl (r := ((k + 1 : Nat) : Int)) (w64 (by omega) (by omega))) ?_
      refine Gx.val rfl rfl rfl (val_move rfl rfl) ?_
      refine Gx.done ?_
      refine Gx.thenN ?_
      refine Gx.drop 0 rfl ?_
      refine Gx.norm (l' := [Hp.own FO 6 lv (ofL (h.take (k + 1)) r), R]) (by rw [of_snoc hx2, if_neg h4]; rw [List.append_nil] <;> rfl) ?_
      exact Gx.round (k + 1, lv) ⟨by first | omega | (dsimp only; omega), hil⟩ (by first | omega | (dsimp only; omega)) ((.cons rfl (.cons rfl (.cons rfl (.cons rfl (.cons rfl .nil)))))) rfl
  · refine Gx.exit ?_
    refine Gx.thenE ?_
    refine Gx.thenE ?_
    refine Gx.blkE ?_
    refine Gx.thenN ?_
    refine Gx.seq ?_
    refine Gx.region ?_
    refine Gx.val rfl rfl rfl (val_move rfl rfl) ?_
    refine Gx.val rfl rfl rfl (val_assign rfl rfl) ?_
    refine Gx.done ?_
    refine Gx.thenN ?_
    refine Gx.ret ?_
    obtain rfl : k = h.length := by omega
    refine Gx.norm (l' := [Hp.own FO 6 lv (ofL h r), R]) (by rw [List.take_length] <;> rfl) ?_
    refine Gx.ret1 Try.results12 rfl ?_
    exact ⟨_, hil, rfl, sep1 _ _⟩

theorem local_any {W : World} {hv : Value} {h : List Op}  (hs : SlS FO 6 W hv h) (hbig : h.length * 48 ≤ 140737488351232) :
    Calls Try.prog 4 #[hv] W fun e w' => e = .returned (.bool true) ∧ Below W.heap.size W w' := by
  have hlen := sls_bd hs
  refine calls_pure (Gx.enter (l := []) Try.func4 rfl Try.ntmps4 rfl (Sat.start W) ?_)
  refine Gx.know (m' := [(0, hv)]) (.cons rfl .nil) ?_
  refine Gx.seq ?_
  refine Gx.region ?_
  refine Gx.val rfl rfl rfl (val_assign rfl rfl) ?_
  refine Gx.done ?_
  refine Gx.thenN ?_
  refine Gx.seq ?_
  refine Gx.region ?_
  refine Gx.val rfl rfl rfl (val_move rfl rfl) ?_
  refine Gx.eff rfl rfl rfl (eff_callE (vs := [hv]) rfl Try.fn9 rfl (R := LinR h) (fun w H => linear_any (hs.below H.below))) ?_
  rintro _ _ ⟨⟨a1, n1, c1, b1, e1, rfl, hA1, hB1⟩, rfl⟩
  refine Gx.val rfl rfl rfl (val_move rfl rfl) ?_
  refine Gx.val rfl rfl rfl (val_extract rfl rfl rfl) ?_
  refine Gx.val rfl rfl rfl (val_extract rfl rfl rfl) ?_
  refine Gx.val rfl rfl rfl (val_extract rfl rfl rfl) ?_
  refine Gx.val rfl rfl rfl (val_assign rfl rfl) ?_
  refine Gx.val rfl rfl rfl (val_assign rfl rfl) ?_
  refine Gx.val rfl rfl rfl (val_assign rfl rfl) ?_
  refine Gx.done ?_
  refine Gx.thenN ?_
  refine Gx.seq ?_
  refine Gx.seq ?_
  refine Gx.region ?_
  refine Gx.val rfl rfl rfl (val_move rfl rfl) ?_
  refine Gx.eff rfl rfl rfl (eff_callE (vs := [hv]) rfl Try.fn10 rfl (R := fun v => ∃ b : Bool, v = .bool b ∧ (b = true ↔ OkH h)) (fun w H => history_any (hs.below H.below))) ?_
  rintro _ _ ⟨⟨b2, rfl, hb2⟩, rfl⟩
  refine Gx.val rfl rfl rfl (val_not rfl rfl) ?_
  refine Gx.done ?_
  refine Gx.thenN ?_
  refine Gx.bool rfl (fun h3 => ?_) (fun h3 => ?_)
  · refine Gx.seq ?_
    refine Gx.region ?_
    refine Gx.val rfl rfl rfl (val_move rfl rfl) ?_
    refine Gx.val rfl rfl rfl (val_neq rfl rfl rfl) ?_
    refine Gx.val rfl rfl rfl (val_assign rfl rfl) ?_
    refine Gx.done ?_
    refine Gx.thenN ?_
    refine Gx.ret ?_
    refine Gx.thenR ?_
    refine Gx.ret1 Try.results4 rfl ?_
    exact congrArg Value.bool (decide_eq_true (by intro q; have := hb2.2 (hA1.1 q); simp_all))
  · refine Gx.skip ?_
    refine Gx.thenN ?_
    refine Gx.seq ?_
    refine Gx.region ?_
    refine Gx.val rfl rfl rfl (val_assign rfl rfl) ?_
    refine Gx.done ?_
    refine Gx.thenN ?_
    refine Gx.seq ?_
    refine Gx.seq ?_
    have hok := hb2.1 (by simpa using h3)
    have he1 := hA1.2 hok
    have i1 := (hB1 hok).1
    refine Gx.region ?_
    refine Gx.val rfl rfl rfl (val_assign rfl rfl) ?_
    refine Gx.done ?_
    refine Gx.thenN ?_
    refine Gx.block ?_
    refine Gx.loop (ι := Nat × Bool) (fun ξ => (ξ.1 ≤ 4) ∧ (ξ.2 = true ↔ ∀ s : Nat, s < ξ.1 → (FL (ofL h ((s : Nat) : Int)) []).isSome = true)) (fun ξ => [(0, hv), (4, .bool b1), (5, .int .i64 e1), (6, .bool ξ.2), (7, .int .i64 ((ξ.1 : Nat) : Int))]) (fun ξ => []) (fun ξ => 4 - ξ.1) (0, true) ⟨by first | omega | (dsimp only; omega), ⟨fun _ s hs' => by omega, fun _ => rfl⟩⟩ ((.cons rfl (.cons rfl (.cons rfl (.cons rfl (.cons rfl .nil)))))) rfl ?_
    rintro ⟨k, b⟩ ⟨hk, hb⟩
    dsimp only at hk hb
    refine Gx.know (m' := [(0, hv), (4, .bool b1), (5, .int .i64 e1), (6, .bool b), (7, .int .i64 ((k : Nat) : Int))]) (.cons rfl (.cons rfl (.cons rfl (.cons rfl (.cons rfl .nil))))) (Gx.norm (l' := []) rfl ?_)
    refine Gx.seq ?_
    refine Gx.seq ?_
    refine Gx.region ?_
    refine Gx.val rfl rfl rfl (val_move rfl rfl) ?_
    refine Gx.val rfl rfl rfl (val_lss rfl rfl rfl) ?_
    refine Gx.done ?_
    refine Gx.thenN ?_
    refine Gx.dec rfl (fun h4 => ?_) (fun h4 => ?_)
    · refine Gx.skip ?_
      refine Gx.thenN ?_
      refine Gx.seq ?_
      refine Gx.block ?_
      refine Gx.seq ?_
      refine Gx.region ?_
      refine Gx.val rfl rfl rfl (val_move rfl rfl) ?_
      refine Gx.val rfl rfl rfl (val_move rfl rfl) ?_
      refine Gx.eff rfl rfl rfl (eff_call (vs := [hv, .int .i64 ((k : Nat) : Int)]) rfl Try.fn12 rfl (fun w H => of_any ((k : Nat) : Int) hs hbig H)) ?_
      rintro _ l6 ⟨lv5, hilv5, rfl, hl6⟩
      refine Gx.sepEq (l' := [Hp.own FO 6 lv5 (ofL h ((k : Nat) : Int))]) hl6 ?_
      have hol : (ofL h ((k : Nat) : Int)).length ≤ h.length := List.length_filter_le ..
      refine Gx.eff rfl rfl rfl (eff_callE (vs := [lv5]) rfl Try.fn9 rfl (R := LinR (ofL h ((k : Nat) : Int))) (fun w H => linear_any ((H.at_ (k := 0) rfl).sls (by omega)))) ?_
      rintro _ _ ⟨⟨a7, n7, c7, b7, e7, rfl, hA7, hB7⟩, rfl⟩
      refine Gx.val rfl rfl rfl (val_move rfl rfl) ?_
      refine Gx.val rfl rfl rfl (val_extract rfl rfl rfl) ?_
      refine Gx.val rfl rfl rfl (val_extract rfl rfl rfl) ?_
      refine Gx.val rfl rfl rfl (val_extract rfl rfl rfl) ?_
      refine Gx.val rfl rfl rfl (val_assign rfl rfl) ?_
      refine Gx.val rfl rfl rfl (val_assign rfl rfl) ?_
      refine Gx.val rfl rfl rfl (val_assign rfl rfl) ?_
      refine Gx.done ?_
      refine Gx.thenN ?_
      refine Gx.seq ?_
      refine Gx.seq ?_
      refine Gx.region ?_
      refine Gx.val rfl rfl rfl (val_move rfl rfl) ?_
      refine Gx.val rfl rfl rfl (val_neq rfl rfl rfl) ?_
      refine Gx.done ?_
      refine Gx.thenN ?_
      refine Gx.dec rfl (fun h8 => ?_) (fun h8 => ?_)
      · refine Gx.seq ?_
        refine Gx.region ?_
        refine Gx.val rfl rfl rfl (val_assign rfl rfl) ?_
        refine Gx.done ?_
        refine Gx.thenN ?_
        refine Gx.ret ?_
        refine Gx.thenR ?_
        refine Gx.blkR ?_
        refine Gx.thenR ?_
        refine Gx.thenR ?_
        refine Gx.blkR ?_
        refine Gx.thenR ?_
        refine Gx.ret1 Try.results4 rfl ?_
        exfalso; first | omega | (have := hA7.2 (of_ok hok); omega)
      · refine Gx.skip ?_
        refine Gx.thenN ?_
        refine Gx.region ?_
        refine Gx.val rfl rfl rfl (val_move rfl rfl) ?_
        refine Gx.val rfl rfl rfl (val_move rfl rfl) ?_
        refine Gx.casesB (t := 37) rfl (fun h9 => ?_) (fun h9 => ?_)
        · refine Gx.valg rfl rfl rfl rfl rfl (val_move rfl rfl) ?_
          refine Gx.val rfl rfl rfl (val_pickT rfl rfl rfl) ?_
          refine Gx.val rfl rfl rfl (val_assign rfl rfl) ?_
          refine Gx.done ?_
          refine Gx.blkN ?_
          refine Gx.thenN ?_
          refine Gx.region ?_
          refine Gx.val rfl rfl rfl (val_move rfl rfl) ?_
          refine Gx.val rfl rfl rfl (val_add rfl rfl rfl (r := ((k + 1 : Nat) : Int)) (w64 (by omega) (by omega))) ?_
          refine Gx.val rfl rfl rfl (val_assign rfl rfl) ?_
          refine Gx.done ?_
          refine Gx.thenN ?_
          refine Gx.drop 0 rfl ?_
          have i2 := (hB7 (of_ok hok)).1
          exact Gx.round (k + 1, b7) ⟨by first | omega | (dsimp only; omega), by
            constructor
            · intro q s hs'
              rcases Nat.lt_or_eq_of_le (Nat.le_of_lt_succ hs') with q2 | rfl
              · first | exact hb.1 (by simp_all) s q2 | exact (hb.1 (by assumption)) s q2
              · simp_all
            · intro q
              have q1 := q k (Nat.lt_succ_self _)
              have q2 := hb.2 fun s hs' => q s (Nat.lt_succ_of_lt hs')
              simp_all⟩ (by first | omega | (dsimp only; omega)) ((.cons rfl (.cons rfl (.cons rfl (.cons rfl (.cons rfl .nil)))))) rfl
        · refine Gx.skipg rfl rfl rfl rfl rfl rfl ?_
          refine Gx.val rfl rfl rfl (val_pickF rfl rfl rfl) ?_
          refine Gx.val rfl rfl rfl (val_assign rfl rfl) ?_
          refine Gx.done ?_
          refine Gx.blkN ?_
          refine Gx.thenN ?_
          refine Gx.region ?_
          refine Gx.val rfl rfl rfl (val_move rfl rfl) ?_
          refine Gx.val rfl rfl rfl (val_add rfl rfl rfl (r := ((k + 1 : Nat) : Int)) (w64 (by omega) (by omega))) ?_
          refine Gx.val rfl rfl rfl (val_assign rfl rfl) ?_
          refine Gx.done ?_
          refine Gx.thenN ?_
          refine Gx.drop 0 rfl ?_
          have i2 := (hB7 (of_ok hok)).1
          exact Gx.round (k + 1, false) ⟨by first | omega | (dsimp only; omega), by
            constructor
            · intro q s hs'
              rcases Nat.lt_or_eq_of_le (Nat.le_of_lt_succ hs') with q2 | rfl
              · first | exact hb.1 (by simp_all) s q2 | exact (hb.1 (by assumption)) s q2
              · simp_all
            · intro q
              have q1 := q k (Nat.lt_succ_self _)
              have q2 := hb.2 fun s hs' => q s (Nat.lt_succ_of_lt hs')
              simp_all⟩ (by first | omega | (dsimp only; omega)) ((.cons rfl (.cons rfl (.cons rfl (.cons rfl (.cons rfl .nil)))))) rfl
    · refine Gx.exit ?_
      refine Gx.thenE ?_
      refine Gx.thenE ?_
      refine Gx.blkE ?_
      refine Gx.thenN ?_
      refine Gx.seq ?_
      refine Gx.region ?_
      refine Gx.val rfl rfl rfl (val_move rfl rfl) ?_
      refine Gx.val rfl rfl rfl (val_eql rfl rfl rfl) ?_
      refine Gx.val rfl rfl rfl (val_move rfl rfl) ?_
      refine Gx.cases (t := 42) rfl (fun h10 => ?_) (fun h10 => ?_)
      · refine Gx.valg rfl rfl rfl rfl rfl (val_move rfl rfl) ?_
        refine Gx.valg rfl rfl rfl rfl rfl (val_move rfl rfl) ?_
        refine Gx.valg rfl rfl rfl rfl rfl (val_eqlB Try.underlying4 rfl rfl rfl) ?_
        refine Gx.val rfl rfl rfl (val_pickT rfl rfl rfl) ?_
        refine Gx.val rfl rfl rfl (val_assign rfl rfl) ?_
        refine Gx.done ?_
        refine Gx.thenN ?_
        refine Gx.ret ?_
        refine Gx.ret1 Try.results4 rfl ?_
        have hk4 : k = 4 := by omega
        subst hk4
        exact congrArg Value.bool (by
            have h1 := local_is hok
            have : b1 = b := by rw [i1, Bool.eq_iff_iff, h1, hb]
            rw [this]; simp)
      · refine Gx.skipg rfl rfl rfl rfl rfl rfl ?_
        refine Gx.skipg rfl rfl rfl rfl rfl rfl ?_
        refine Gx.skipg rfl rfl rfl rfl rfl rfl ?_
        refine Gx.val rfl rfl rfl (val_pickF rfl rfl rfl) ?_
        refine Gx.val rfl rfl rfl (val_assign rfl rfl) ?_
        refine Gx.done ?_
        refine Gx.thenN ?_
        refine Gx.ret ?_
        refine Gx.ret1 Try.results4 rfl ?_
        exfalso; first | omega | (have := hA7.2 (of_ok hok); omega)

end Go.Proofs.Ytocgifddjpbmlaa
