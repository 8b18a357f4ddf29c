/- All pays, of money that may be. The walk. No condition. -/
import Derived.Test.YtfeeociajllbhaaDoorLA2
namespace Go.Proofs.YtfeeociajllbhaaDoor.Lg
open Go.RowKit
set_option linter.unusedVariables false
set_option linter.unusedSimpArgs false
set_option maxRecDepth 100000

theorem start_snoc {money : List Int} {i : Nat} {x : Int} (h : money[i]? = some x) : start0 (money.take (i + 1)) = start0 (money.take i) ++ [⟨x, 0⟩] := by
  unfold start0; rw [take_of h, List.map_append]; rfl
theorem start_len (money : List Int) : (start0 money).length = money.length := by simp [start0]
theorem accs_snoc {pays : List Py} {i : Nat} {p : Py} {l : List Acc} (h : pays[i]? = some p) : accsL l (pays.take (i + 1)) = payL (accsL l (pays.take i)) p := by rw [take_of h, accsL_app]; rfl
theorem codes_snoc {pays : List Py} {i : Nat} {p : Py} {l : List Acc} (h : pays[i]? = some p) : codesL l (pays.take (i + 1)) = codesL l (pays.take i) ++ [payC (accsL l (pays.take i)) p] := by rw [take_of h, codesL_app]; rfl
theorem bd_start {money : List Int} (h : OkM money) : BdA 0 (start0 money) := fun i a ha => by
  unfold start0 at ha
  rw [List.getElem?_map] at ha
  cases e : money[i]? with
  | none => rw [e] at ha; cases ha
  | some x =>
    rw [e] at ha; cases ha
    have := h x (List.mem_of_getElem? e)
    exact ⟨this.1, this.2, Nat.le_refl _⟩
theorem play_own {W : World} {mv pv : Value} {money : List Int} {pays : List Py} (hg : HG W) (hm : SlS FM 1 W mv money) (hp : SlS FP 4 W pv pays) (hok : OkL money pays.length) :
    Calls Tryd.prog 13 #[mv, pv] W (Ret W fun v l => ∃ av cv, IsS av ∧ IsS cv ∧ v = .tuple #[av, cv, .int .i64 0] ∧ l = [Hp.own FA 2 av (accsL (start0 money) pays), Hp.own FZ 1 cv (codesL (start0 money) pays)]) := by
  have hm1 := len_bd hm
  have hp1 := len_bd hp
  refine Gx.enter (l := []) Tryd.func13 rfl Tryd.ntmps13 rfl (Sat.start W) ?_
  refine Gx.know (m' := [(0, mv), (1, pv)]) (.cons rfl (.cons rfl .nil)) ?_
  refine Gx.seq ?_
  refine Gx.region ?_
  refine Gx.val rfl rfl rfl (val_assign rfl rfl) ?_
  refine Gx.val rfl rfl rfl (val_assign rfl rfl) ?_
  refine Gx.val rfl rfl rfl (val_assign rfl rfl) ?_
  refine Gx.done ?_
  refine Gx.thenN ?_
  refine Gx.seq ?_
  refine Gx.seq ?_
  refine Gx.region ?_
  refine Gx.val rfl rfl rfl (val_move rfl rfl) ?_
  refine Gx.val rfl rfl rfl (val_len rfl Tryd.underlying24 rfl (len_base hm)) ?_
  refine Gx.val rfl rfl rfl (val_eql rfl rfl rfl) ?_
  refine Gx.val rfl rfl rfl (val_move rfl rfl) ?_
  refine Gx.slot (t := 16) (v := .bool false) (look_decF rfl (by have := hok.low; have := hok.high; omega)) ?_
  refine Gx.valg rfl rfl rfl rfl rfl (val_move rfl rfl) ?_
  refine Gx.valg rfl rfl rfl rfl rfl (val_len rfl Tryd.underlying24 rfl (len_base hm)) ?_
  refine Gx.valg rfl rfl rfl rfl rfl (val_gtr rfl rfl rfl) ?_
  refine Gx.val rfl rfl rfl (val_pickF rfl rfl rfl) ?_
  refine Gx.val rfl rfl rfl (val_move rfl rfl) ?_
  refine Gx.slot (t := 21) (v := .bool false) (look_decF rfl (by have := hok.low; have := hok.high; omega)) ?_
  refine Gx.valg rfl rfl rfl rfl rfl (val_move rfl rfl) ?_
  refine Gx.valg rfl rfl rfl rfl rfl (val_len rfl Tryd.underlying34 rfl (len_base hp)) ?_
  refine Gx.valg rfl rfl rfl rfl rfl (val_gtr rfl rfl rfl) ?_
  refine Gx.val rfl rfl rfl (val_pickF rfl rfl rfl) ?_
  refine Gx.done ?_
  refine Gx.thenN ?_
  refine Gx.decF rfl (by have := hok.few; omega) ?_
  refine Gx.skip ?_
  refine Gx.thenN ?_
  refine Gx.seq ?_
  refine Gx.seq ?_
  refine Gx.region ?_
  refine Gx.val rfl rfl rfl (val_move rfl rfl) ?_
  refine Gx.eff rfl rfl rfl (eff_callE (vs := [mv, .func (.func 27) #[] #[]]) rfl Tryd.fn26 rfl (R := fun v => ∃ b : Bool, v = .bool b ∧ (b = true ↔ ¬ OkM money)) (fun w H => contains_any (hm.below H.below))) ?_
  rintro _ _ ⟨⟨b1, rfl, hb1⟩, rfl⟩
  refine Gx.done ?_
  refine Gx.thenN ?_
  refine Gx.boolF rfl (Bool.eq_false_iff.2 fun q => hb1.1 q hok.all) ?_
  refine Gx.skip ?_
  refine Gx.thenN ?_
  refine Gx.seq ?_
  refine Gx.region ?_
  refine Gx.val rfl rfl rfl (val_assign rfl rfl) ?_
  refine Gx.done ?_
  refine Gx.thenN ?_
  refine Gx.seq ?_
  refine Gx.seq ?_
  have hlow := hok.low
  have hhigh := hok.high
  have hfew := hok.few
  refine Gx.ownNil FA 2 ?_
  refine Gx.region ?_
  refine Gx.val rfl rfl rfl (val_move rfl rfl) ?_
  refine Gx.val rfl rfl rfl (val_len rfl Tryd.underlying24 rfl (len_base hm)) ?_
  refine Gx.val rfl rfl rfl (val_move rfl rfl) ?_
  refine Gx.done ?_
  refine Gx.thenN ?_
  refine Gx.block ?_
  refine Gx.loop (ι := Nat × Value) (fun ξ => (ξ.1 ≤ money.length) ∧ (IsS ξ.2)) (fun ξ => [(28, mv), (29, .int .i64 ((money.length : Nat) : Int)), (30, .int .i64 ((ξ.1 : Nat) : Int)), (0, mv), (1, pv), (7, ξ.2)]) (fun ξ => [Hp.own FA 2 ξ.2 (start0 (money.take ξ.1))]) (fun ξ => money.length - ξ.1) (0, (.slice none 0 0)) ⟨by first | omega | (dsimp only; omega), ⟨none, 0, 0, rfl⟩⟩ ((.cons rfl (.cons rfl (.cons rfl (.cons rfl (.cons rfl (.cons rfl .nil))))))) rfl ?_
  rintro ⟨i, av⟩ ⟨hi, hiav⟩
  dsimp only at hi hiav
  refine Gx.know (m' := [(28, mv), (29, .int .i64 ((money.length : Nat) : Int)), (30, .int .i64 ((i : Nat) : Int)), (0, mv), (1, pv), (7, av)]) (.cons rfl (.cons rfl (.cons rfl (.cons rfl (.cons rfl (.cons rfl .nil)))))) (Gx.norm (l' := [Hp.own FA 2 av (start0 (money.take i))]) rfl ?_)
  have hsl : (start0 (money.take i)).length = i := by rw [start_len, List.length_take]; omega
  refine Gx.seq ?_
  refine Gx.region ?_
  refine Gx.val rfl rfl rfl (val_lss rfl rfl rfl) ?_
  refine Gx.done ?_
  refine Gx.thenN ?_
  refine Gx.seq ?_
  refine Gx.dec rfl (fun h2 => ?_) (fun h2 => ?_)
  · refine Gx.skip ?_
    refine Gx.thenN ?_
    refine Gx.seq ?_
    refine Gx.block ?_
    refine Gx.seq ?_
    refine Gx.region ?_
    obtain ⟨x3, hx3⟩ := get_of_lt (xs := money) (k := i) (by first | omega | (simp; omega))
    refine Gx.val rfl rfl rfl (val_ixa rfl Tryd.underlying24 Tryd.ty2 rfl rfl (j := i) (rfl) (reach_base hm hx3)) ?_
    refine Gx.val rfl rfl rfl (val_load rfl Tryd.ty2 rfl rfl (cell_base (i := 0) hm hx3 rfl)) ?_
    refine Gx.val rfl rfl rfl (val_assign rfl rfl) ?_
    refine Gx.done ?_
    refine Gx.thenN ?_
    refine Gx.region ?_
    refine Gx.val rfl rfl rfl (val_move rfl rfl) ?_
    refine Gx.val rfl rfl rfl (val_move rfl rfl) ?_
    refine Gx.val rfl rfl rfl (val_build rfl (qs := [(0, .int .i64 x3)]) rfl rfl (fun w => by go_simp) (v := .agg #[.int .i64 x3, .int .i64 0])) ?_
    refine Gx.eff rfl rfl rfl (eff_buildSlice rfl (qs := [(0, .agg #[.int .i64 x3, .int .i64 0])]) rfl rfl (cs := #[.int .i64 x3, .int .i64 0]) (vs := [.int .i64 x3, .int .i64 0]) (E := 43) rfl (fun w => by first | (go_simp; done) | (go_simp; rfl))) ?_
    rintro _ _ ⟨b4, rfl, rfl⟩
    refine Gx.eff rfl rfl rfl (eff_push (r := (⟨x3, 0⟩ : Acc)) rfl Tryd.eA FA_len FA_one rfl rfl (k := 0) rfl rfl (k' := 0) rfl (by rw [hsl]; omega) (by rw [hsl]; omega)) ?_
    rintro v5 _ ⟨hiv5, rfl⟩
    refine Gx.norm (l' := [Hp.own FA 2 v5 ((start0 (money.take i)) ++ [(⟨x3, 0⟩ : Acc)])]) rfl ?_
    refine Gx.val rfl rfl rfl (val_assign rfl rfl) ?_
    refine Gx.done ?_
    refine Gx.blkN ?_
    refine Gx.thenN ?_
    refine Gx.region ?_
    refine Gx.val rfl rfl rfl (val_add rfl rfl rfl (r := ((i + 1 : Nat) : Int)) (w64 (by omega) (by omega))) ?_
    refine Gx.val rfl rfl rfl (val_move rfl rfl) ?_
    refine Gx.done ?_
    refine Gx.thenN ?_
    refine Gx.norm (l' := [Hp.own FA 2 v5 (start0 (money.take (i + 1)))]) (by rw [start_snoc hx3] <;> rfl) ?_
    exact Gx.round (i + 1, v5) ⟨by first | omega | (dsimp only; omega), hiv5⟩ (by first | omega | (dsimp only; omega)) ((.cons rfl (.cons rfl (.cons rfl (.cons rfl (.cons rfl (.cons rfl .nil))))))) rfl
  · refine Gx.exit ?_
    refine Gx.thenE ?_
    refine Gx.thenE ?_
    refine Gx.blkE ?_
    refine Gx.thenN ?_
    refine Gx.seq ?_
    obtain rfl : i = money.length := by omega
    rw [List.take_length] at hsl
    have hbd0 := bd_start hok.all
    refine Gx.norm (l' := [Hp.own FA 2 av (start0 money)]) (by rw [List.take_length] <;> rfl) ?_
    refine Gx.region ?_
    refine Gx.val rfl rfl rfl (val_assign rfl rfl) ?_
    refine Gx.done ?_
    refine Gx.thenN ?_
    refine Gx.seq ?_
    refine Gx.seq ?_
    refine Gx.ownNil FZ 1 ?_
    refine Gx.region ?_
    refine Gx.val rfl rfl rfl (val_move rfl rfl) ?_
    refine Gx.val rfl rfl rfl (val_len rfl Tryd.underlying34 rfl (len_base hp)) ?_
    refine Gx.val rfl rfl rfl (val_move rfl rfl) ?_
    refine Gx.done ?_
    refine Gx.thenN ?_
    refine Gx.block ?_
    refine Gx.loop (ι := Nat × Value) (fun ξ => (ξ.1 ≤ pays.length) ∧ (IsS ξ.2)) (fun ξ => [(0, mv), (1, pv), (7, av), (10, ξ.2), (40, pv), (41, .int .i64 ((pays.length : Nat) : Int)), (42, .int .i64 ((ξ.1 : Nat) : Int))]) (fun ξ => [Hp.own FZ 1 ξ.2 (codesL (start0 money) (pays.take ξ.1)), Hp.own FA 2 av (accsL (start0 money) (pays.take ξ.1))]) (fun ξ => pays.length - ξ.1) (0, (.slice none 0 0)) ⟨by first | omega | (dsimp only; omega), ⟨none, 0, 0, rfl⟩⟩ ((.cons rfl (.cons rfl (.cons rfl (.cons rfl (.cons rfl (.cons rfl (.cons rfl .nil)))))))) rfl ?_
    rintro ⟨q, cv⟩ ⟨hq, hicv⟩
    dsimp only at hq hicv
    refine Gx.know (m' := [(0, mv), (1, pv), (7, av), (10, cv), (40, pv), (41, .int .i64 ((pays.length : Nat) : Int)), (42, .int .i64 ((q : Nat) : Int))]) (.cons rfl (.cons rfl (.cons rfl (.cons rfl (.cons rfl (.cons rfl (.cons rfl .nil))))))) (Gx.norm (l' := [Hp.own FZ 1 cv (codesL (start0 money) (pays.take q)), Hp.own FA 2 av (accsL (start0 money) (pays.take q))]) rfl ?_)
    have hbd : BdA q (accsL (start0 money) (pays.take q)) := by
      have := BdA.run (pays.take q) hbd0
      rwa [List.length_take, Nat.min_eq_left hq, Nat.zero_add] at this
    have hal : (accsL (start0 money) (pays.take q)).length = money.length := by rw [accsL_len, start_len]
    have hcl : (codesL (start0 money) (pays.take q)).length = q := by rw [codesL_len, List.length_take]; omega
    refine Gx.seq ?_
    refine Gx.region ?_
    refine Gx.val rfl rfl rfl (val_lss rfl rfl rfl) ?_
    refine Gx.done ?_
    refine Gx.thenN ?_
    refine Gx.seq ?_
    refine Gx.dec rfl (fun h6 => ?_) (fun h6 => ?_)
    · refine Gx.skip ?_
      refine Gx.thenN ?_
      refine Gx.seq ?_
      refine Gx.block ?_
      refine Gx.seq ?_
      refine Gx.region ?_
      obtain ⟨x7, hx7⟩ := get_of_lt (xs := pays) (k := q) (by first | omega | (simp; omega))
      refine Gx.val rfl rfl rfl (val_ixa rfl Tryd.underlying34 Tryd.ty82 rfl rfl (j := q) (rfl) (reach_base hp hx7)) ?_
      refine Gx.val rfl rfl rfl (Val.cast (val_loadA rfl Tryd.ty82 rfl rfl rfl (cells_base hp hx7)) (v' := .agg #[.int .i64 x7.frm, .int .i64 x7.to, .int .i64 x7.ser, .int .i64 x7.n]) rfl) ?_
      refine Gx.eff rfl rfl rfl (eff_alloc rfl Tryd.ty82 (vs := [.int .i64 0, .int .i64 0, .int .i64 0, .int .i64 0]) rfl) ?_
      rintro _ _ ⟨b8, rfl, rfl⟩
      refine Gx.eff0 rfl rfl (eff_store rfl Tryd.ty82 rfl rfl (us := [.int .i64 x7.frm, .int .i64 x7.to, .int .i64 x7.ser, .int .i64 x7.n]) rfl rfl rfl (k := 0) rfl (rfl) (vs' := [.int .i64 x7.frm, .int .i64 x7.to, .int .i64 x7.ser, .int .i64 x7.n]) (rfl) (l' := [Hp.rec_ b8 [.int .i64 x7.frm, .int .i64 x7.to, .int .i64 x7.ser, .int .i64 x7.n], Hp.own FZ 1 cv (codesL (start0 money) (pays.take q)), Hp.own FA 2 av (accsL (start0 money) (pays.take q))]) rfl) ?_
      rintro _ _ rfl
      refine Gx.done ?_
      refine Gx.thenN ?_
      refine Gx.region ?_
      refine Gx.val rfl rfl rfl (val_move rfl rfl) ?_
      refine Gx.val rfl rfl rfl (val_move rfl rfl) ?_
      refine Gx.val rfl rfl rfl (Val.cast (val_loadA rfl Tryd.ty82 rfl rfl rfl (cells_rec (k := 0) rfl)) (v' := .agg #[.int .i64 x7.frm, .int .i64 x7.to, .int .i64 x7.ser, .int .i64 x7.n]) rfl) ?_
      refine Gx.eff rfl rfl rfl (eff_call (vs := [av, .agg #[.int .i64 x7.frm, .int .i64 x7.to, .int .i64 x7.ser, .int .i64 x7.n]]) rfl Tryd.fn29 rfl (fun w H => pay_any hiav hbd (by omega) (by rw [hal]; exact hok.high) (H.at_ (k := 2) rfl))) ?_
      rintro _ l9 ⟨rfl, hl9⟩
      refine Gx.sepEq (l' := [Hp.own FA 2 av (payL (accsL (start0 money) (pays.take q)) x7), Hp.rec_ b8 [.int .i64 x7.frm, .int .i64 x7.to, .int .i64 x7.ser, .int .i64 x7.n], Hp.own FZ 1 cv (codesL (start0 money) (pays.take q))]) hl9 ?_
      refine Gx.val rfl rfl rfl (val_call (vs := [errV (payC (accsL (start0 money) (pays.take q)) x7)]) rfl Tryd.fn28 rfl (fun w H => code_any _ w (hg.below H.below))) ?_
      refine Gx.eff rfl rfl rfl (eff_buildSlice rfl (qs := [(0, .int .i64 (payC (accsL (start0 money) (pays.take q)) x7))]) rfl rfl (cs := #[.int .i64 (payC (accsL (start0 money) (pays.take q)) x7)]) (vs := [.int .i64 (payC (accsL (start0 money) (pays.take q)) x7)]) (E := 31) rfl (fun w => by first | (go_simp; done) | (go_simp; rfl))) ?_
      rintro _ _ ⟨b10, rfl, rfl⟩
      refine Gx.eff rfl rfl rfl (eff_push (r := (payC (accsL (start0 money) (pays.take q)) x7)) rfl Tryd.eZ FZ_len FZ_one rfl rfl (k := 0) rfl rfl (k' := 2) rfl (by rw [hcl]; omega) (by rw [hcl]; omega)) ?_
      rintro v11 _ ⟨hiv11, rfl⟩
      refine Gx.norm (l' := [Hp.own FA 2 av (payL (accsL (start0 money) (pays.take q)) x7), Hp.rec_ b8 [.int .i64 x7.frm, .int .i64 x7.to, .int .i64 x7.ser, .int .i64 x7.n], Hp.own FZ 1 v11 ((codesL (start0 money) (pays.take q)) ++ [(payC (accsL (start0 money) (pays.take q)) x7)])]) rfl ?_
      refine Gx.val rfl rfl rfl (val_assign rfl rfl) ?_
      refine Gx.done ?_
      refine Gx.blkN ?_
      refine Gx.thenN ?_
      refine Gx.region ?_
      refine Gx.val rfl rfl rfl (val_add rfl rfl rfl (r := ((q + 1 : Nat) : Int)) (w64 (by omega) (by omega))) ?_
      refine Gx.val rfl rfl rfl (val_move rfl rfl) ?_
      refine Gx.done ?_
      refine Gx.thenN ?_
      refine Gx.drop 1 rfl ?_
      refine Gx.front 0 rfl ?_
      refine Gx.front 1 rfl ?_
      refine Gx.norm (l' := [Hp.own FZ 1 v11 (codesL (start0 money) (pays.take (q + 1))), Hp.own FA 2 av (accsL (start0 money) (pays.take (q + 1)))]) (by rw [codes_snoc hx7, accs_snoc hx7] <;> rfl) ?_
      exact Gx.round (q + 1, v11) ⟨by first | omega | (dsimp only; omega), hiv11⟩ (by first | omega | (dsimp only; omega)) ((.cons rfl (.cons rfl (.cons rfl (.cons rfl (.cons rfl (.cons rfl (.cons rfl .nil)))))))) rfl
    · refine Gx.exit ?_
      refine Gx.thenE ?_
      refine Gx.thenE ?_
      refine Gx.blkE ?_
      refine Gx.thenN ?_
      refine Gx.seq ?_
      obtain rfl : q = pays.length := by omega
      rw [List.take_length] at hcl hal
      refine Gx.norm (l' := [Hp.own FZ 1 cv (codesL (start0 money) pays), Hp.own FA 2 av (accsL (start0 money) pays)]) (by rw [List.take_length] <;> rfl) ?_
      refine Gx.region ?_
      refine Gx.val rfl rfl rfl (val_move rfl rfl) ?_
      refine Gx.val rfl rfl rfl (val_move rfl rfl) ?_
      refine Gx.val rfl rfl rfl (val_assign rfl rfl) ?_
      refine Gx.val rfl rfl rfl (val_assign rfl rfl) ?_
      refine Gx.val rfl rfl rfl (val_assign rfl rfl) ?_
      refine Gx.done ?_
      refine Gx.thenN ?_
      refine Gx.ret ?_
      refine Gx.front 0 rfl ?_
      refine Gx.front 1 rfl ?_
      refine Gx.ret3 Tryd.results13 rfl rfl rfl ?_
      exact ⟨_, _, hiav, hicv, rfl, rfl⟩

theorem play_ok {W : World} {mv pv : Value} {money : List Int} {pays : List Py} (hg : HG W) (hm : SlS FM 1 W mv money) (hp : SlS FP 4 W pv pays) (hok : OkL money pays.length) :
    Calls Tryd.prog 13 #[mv, pv] W fun e w' => ∃ u, e = .returned u ∧ (∃ av cv, u = .tuple #[av, cv, .int .i64 0] ∧ SlS FA 2 w' av (accsL (start0 money) pays) ∧ SlS FZ 1 w' cv (codesL (start0 money) pays)) ∧ Below W.heap.size W w' := by
  have hp1 := len_bd hp
  refine calls_some (play_own hg hm hp hok) ?_
  rintro v l w ⟨av, cv, _, _, rfl, rfl⟩ H
  exact ⟨av, cv, rfl, (H.at_ (k := 0) rfl).sls (by rw [accsL_len, start_len]; have := hok.high; omega), (H.at_ (k := 1) rfl).sls (by rw [codesL_len]; omega)⟩

end Go.Proofs.YtfeeociajllbhaaDoor.Lg
