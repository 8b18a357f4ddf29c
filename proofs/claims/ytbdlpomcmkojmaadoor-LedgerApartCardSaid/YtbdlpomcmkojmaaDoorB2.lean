/- What is done earlier stays. The walk. No condition. -/
import Derived.Test.YtbdlpomcmkojmaaDoorM1
namespace Go.Proofs.YtbdlpomcmkojmaaDoor
open Go.RowKit
set_option linter.unusedVariables false
set_option linter.unusedSimpArgs false
set_option maxRecDepth 100000

theorem play_some {W : World} {mv pv : Value} {money : List Int} {pays : List Py} (hg : HG W) (hm : SlS FM 1 W mv money) (hp : SlS FP 4 W pv pays) :
    Calls Tryd.prog 7 #[mv, pv] W fun e w' => ∃ u, e = .returned u ∧ (∃ (a a' : Option Addr) (m c m' c' : Nat) (z : Int), u = .tuple #[.slice a m c, .slice a' m' c', .int .i64 z]) ∧ Below W.heap.size W w' := by
  by_cases h : OkL money pays.length
  · refine (play_ok hg hm hp h).mono fun e w' ⟨u, he, ⟨av, cv, hu, h1, h2⟩, hb⟩ => ⟨u, he, ?_, hb⟩
    obtain ⟨_, _, _, rfl⟩ := h1.isS
    obtain ⟨_, _, _, rfl⟩ := h2.isS
    exact ⟨_, _, _, _, _, _, _, hu⟩
  · exact (play_no hm hp h).mono fun e w' ⟨u, he, ⟨c, hu, _⟩, hb⟩ => ⟨u, he, ⟨_, _, _, _, _, _, _, hu⟩, hb⟩
theorem ok_take {money : List Int} {pays : List Py} {k : Nat} (h : OkL money pays.length) : OkL money (pays.take k).length := ⟨h.low, h.high, by have := h.few; rw [List.length_take]; omega, h.all⟩
theorem codes_any {W : World} {va vb : Value} {xs ys : List Int} (ha : SlS FZ 1 W va xs) (hb : SlS FZ 1 W vb ys) : Calls Tryd.prog 10 #[va, vb] W fun e w' => e = .returned (.bool (decide (xs = ys))) ∧ Below W.heap.size W w' := by
  have m1 := len_bd ha
  have m2 := len_bd hb
  refine calls_pure (Gx.enter (l := []) Tryd.func10 rfl Tryd.ntmps10 rfl (Sat.start W) ?_)
  refine Gx.know (m' := [(0, va), (1, vb)]) (.cons rfl (.cons rfl .nil)) ?_
  refine Gx.seq ?_
  refine Gx.region ?_
  refine Gx.val rfl rfl rfl (val_assign rfl rfl) ?_
  refine Gx.done ?_
  refine Gx.thenN ?_
  refine Gx.seq ?_
  refine Gx.seq ?_
  refine Gx.region ?_
  refine Gx.val rfl rfl rfl (val_move rfl rfl) ?_
  refine Gx.val rfl rfl rfl (val_len rfl Tryd.underlying25 rfl (len_base ha)) ?_
  refine Gx.val rfl rfl rfl (val_move rfl rfl) ?_
  refine Gx.val rfl rfl rfl (val_len rfl Tryd.underlying25 rfl (len_base hb)) ?_
  refine Gx.val rfl rfl rfl (val_neq rfl rfl rfl) ?_
  refine Gx.done ?_
  refine Gx.thenN ?_
  refine Gx.dec rfl (fun h1 => ?_) (fun h1 => ?_)
  · refine Gx.seq ?_
    refine Gx.region ?_
    refine Gx.val rfl rfl rfl (val_assign rfl rfl) ?_
    refine Gx.done ?_
    refine Gx.thenN ?_
    refine Gx.ret ?_
    refine Gx.thenR ?_
    refine Gx.ret1 Tryd.results10 rfl ?_
    exact (congrArg Value.bool (decide_eq_false fun h => by subst h; omega)).symm
  · refine Gx.skip ?_
    refine Gx.thenN ?_
    refine Gx.seq ?_
    refine Gx.seq ?_
    refine Gx.region ?_
    refine Gx.val rfl rfl rfl (val_assign rfl rfl) ?_
    refine Gx.done ?_
    refine Gx.thenN ?_
    refine Gx.block ?_
    refine Gx.loop (ι := Nat) (fun ξ => (ξ ≤ xs.length) ∧ (∀ q, q < ξ → xs[q]? = ys[q]?)) (fun ξ => [(0, va), (1, vb), (5, .int .i64 ((ξ : Nat) : Int))]) (fun ξ => []) (fun ξ => xs.length - ξ) 0 ⟨by first | omega | (dsimp only; omega), by omega⟩ ((.cons rfl (.cons rfl (.cons rfl .nil)))) rfl ?_
    rintro k ⟨hk, he⟩
    refine Gx.know (m' := [(0, va), (1, vb), (5, .int .i64 ((k : Nat) : Int))]) (.cons rfl (.cons rfl (.cons rfl .nil))) (Gx.norm (l' := []) rfl ?_)
    refine Gx.seq ?_
    refine Gx.seq ?_
    refine Gx.region ?_
    refine Gx.val rfl rfl rfl (val_move rfl rfl) ?_
    refine Gx.val rfl rfl rfl (val_move rfl rfl) ?_
    refine Gx.val rfl rfl rfl (val_len rfl Tryd.underlying25 rfl (len_base ha)) ?_
    refine Gx.val rfl rfl rfl (val_lss rfl rfl rfl) ?_
    refine Gx.done ?_
    refine Gx.thenN ?_
    refine Gx.dec rfl (fun h2 => ?_) (fun h2 => ?_)
    · refine Gx.skip ?_
      refine Gx.thenN ?_
      refine Gx.seq ?_
      refine Gx.block ?_
      refine Gx.seq ?_
      refine Gx.regionQ Tryd.mixed (by kernel_rfl) ?_
      refine Gq.val rfl rfl rfl (val_move rfl rfl) ?_
      refine Gq.val rfl rfl rfl (val_move rfl rfl) ?_
      obtain ⟨x3, hx3⟩ := get_of_lt (xs := xs) (k := k) (by omega)
      refine Gq.val rfl rfl rfl (val_ixa rfl Tryd.underlying25 Tryd.ty26 rfl rfl (j := k) (rfl) (reach_base ha hx3)) ?_
      refine Gq.val rfl rfl rfl (val_load rfl Tryd.ty26 rfl rfl (cell_base (i := 0) ha hx3 rfl)) ?_
      refine Gq.val rfl rfl rfl (val_move rfl rfl) ?_
      refine Gq.val rfl rfl rfl (val_move rfl rfl) ?_
      obtain ⟨x4, hx4⟩ := get_of_lt (xs := ys) (k := k) (by omega)
      refine Gq.val rfl rfl rfl (val_ixa rfl Tryd.underlying25 Tryd.ty26 rfl rfl (j := k) (rfl) (reach_base hb hx4)) ?_
      refine Gq.val rfl rfl rfl (val_load rfl Tryd.ty26 rfl rfl (cell_base (i := 0) hb hx4 rfl)) ?_
      refine Gq.val rfl rfl rfl (val_neq rfl rfl rfl) ?_
      refine Gq.done ?_
      refine Gx.thenN ?_
      refine Gx.dec rfl (fun h5 => ?_) (fun h5 => ?_)
      · refine Gx.seq ?_
        refine Gx.region ?_
        refine Gx.val rfl rfl rfl (val_assign rfl rfl) ?_
        refine Gx.done ?_
        refine Gx.thenN ?_
        refine Gx.ret ?_
        refine Gx.blkR ?_
        refine Gx.thenR ?_
        refine Gx.thenR ?_
        refine Gx.blkR ?_
        refine Gx.thenR ?_
        refine Gx.ret1 Tryd.results10 rfl ?_
        exact (congrArg Value.bool (decide_eq_false fun h => by subst h; have q := hx3.symm.trans hx4; cases q; omega)).symm
      · refine Gx.skip ?_
        refine Gx.blkN ?_
        refine Gx.thenN ?_
        refine Gx.region ?_
        refine Gx.val rfl rfl rfl (val_move rfl rfl) ?_
        refine Gx.val rfl rfl rfl (val_add rfl rfl rfl (r := ((k + 1 : Nat) : Int)) (w64 (by omega) (by omega))) ?_
        refine Gx.val rfl rfl rfl (val_assign rfl rfl) ?_
        refine Gx.done ?_
        refine Gx.thenN ?_
        exact Gx.round (k + 1) ⟨by first | omega | (dsimp only; omega), fun q hq => by rcases Nat.lt_or_eq_of_le (Nat.le_of_lt_succ hq) with h | rfl; (exact he q h); (rw [hx3, hx4]; exact congrArg some (by omega))⟩ (by first | omega | (dsimp only; omega)) ((.cons rfl (.cons rfl (.cons rfl .nil)))) rfl
    · refine Gx.exit ?_
      refine Gx.thenE ?_
      refine Gx.thenE ?_
      refine Gx.blkE ?_
      refine Gx.thenN ?_
      refine Gx.seq ?_
      refine Gx.region ?_
      refine Gx.val rfl rfl rfl (val_assign rfl rfl) ?_
      refine Gx.done ?_
      refine Gx.thenN ?_
      refine Gx.ret ?_
      refine Gx.ret1 Tryd.results10 rfl ?_
      exact (congrArg Value.bool (decide_eq_true (List.ext_getElem? fun q => by rcases Nat.lt_or_ge q k with h | h; (exact he q h); (rw [List.getElem?_eq_none (by omega), List.getElem?_eq_none (by omega)])))).symm

theorem front_no {W : World} {mv pv : Value} {money : List Int} {pays : List Py} {k : Nat} (hg : HG W) (hm : SlS FM 1 W mv money) (hp : SlS FP 4 W pv pays) (hk : k ≤ 255) (hno : ¬ OkL money pays.length) :
    Calls Tryd.prog 6 #[mv, pv, .int .u8 ((k : Nat) : Int)] W fun e w' => e = .returned (.bool true) ∧ Below W.heap.size W w' := by
  have hm1 := len_bd hm
  have hp1 := len_bd hp
  have hk9 := hk
  have hkm := Nat.mod_lt k (show 0 < pays.length + 1 by omega)
  refine calls_pure (Gx.enter (l := []) Tryd.func6 rfl Tryd.ntmps6 rfl (Sat.start W) ?_)
  refine Gx.know (m' := [(0, mv), (1, pv), (2, .int .u8 ((k : Nat) : Int))]) (.cons rfl (.cons rfl (.cons rfl .nil))) ?_
  refine Gx.seq ?_
  refine Gx.region ?_
  refine Gx.val rfl rfl rfl (val_assign rfl rfl) ?_
  refine Gx.done ?_
  refine Gx.thenN ?_
  refine Gx.seq ?_
  refine Gx.region ?_
  refine Gx.val rfl rfl rfl (val_move rfl rfl) ?_
  refine Gx.val rfl rfl rfl (val_move rfl rfl) ?_
  refine Gx.eff rfl rfl rfl (eff_callE (vs := [mv, pv]) rfl Tryd.fn7 rfl (R := fun u => ∃ c : Int, u = .tuple #[.slice none 0 0, .slice none 0 0, .int .i64 c] ∧ c ≠ 0) (fun w H => play_no (hm.below H.below) (hp.below H.below) hno)) ?_
  rintro _ _ ⟨⟨c1, rfl, hc1⟩, rfl⟩
  refine Gx.val rfl rfl rfl (val_move rfl rfl) ?_
  refine Gx.val rfl rfl rfl (val_extract rfl rfl rfl) ?_
  refine Gx.val rfl rfl rfl (val_extract rfl rfl rfl) ?_
  refine Gx.val rfl rfl rfl (val_extract rfl rfl rfl) ?_
  refine Gx.val rfl rfl rfl (val_assign rfl rfl) ?_
  refine Gx.val rfl rfl rfl (val_assign rfl rfl) ?_
  refine Gx.val rfl rfl rfl (val_assign rfl rfl) ?_
  refine Gx.done ?_
  refine Gx.thenN ?_
  refine Gx.seq ?_
  refine Gx.region ?_
  refine Gx.val rfl rfl rfl (val_move rfl rfl) ?_
  refine Gx.val rfl rfl rfl (val_conv rfl Tryd.underlying5 Tryd.underlying3 rfl (r := ((k : Nat) : Int)) (w64 rfl (by omega))) ?_
  refine Gx.val rfl rfl rfl (val_move rfl rfl) ?_
  refine Gx.val rfl rfl rfl (val_len rfl Tryd.underlying23 rfl (len_base hp)) ?_
  refine Gx.val rfl rfl rfl (val_add rfl rfl rfl (r := ((pays.length + 1 : Nat) : Int)) (w64 (by omega) (by omega))) ?_
  refine Gx.val rfl rfl rfl (val_rem rfl rfl rfl (r := ((k % (pays.length + 1) : Nat) : Int)) (by omega) (rfl)) ?_
  refine Gx.val rfl rfl rfl (val_assign rfl rfl) ?_
  refine Gx.done ?_
  refine Gx.thenN ?_
  refine Gx.seq ?_
  refine Gx.region ?_
  refine Gx.val rfl rfl rfl (val_move rfl rfl) ?_
  refine Gx.val rfl rfl rfl (val_move rfl rfl) ?_
  refine Gx.val rfl rfl rfl (val_move rfl rfl) ?_
  have hcut2 : SlS FP 4 W (sCut 4 0 (k % (pays.length + 1)) pv) (pays.take (k % (pays.length + 1))) := (hp).cut (lo := 0) (hi := k % (pays.length + 1)) (by omega) (by omega)
  refine Gx.val rfl rfl rfl (val_cutTo (up := k % (pays.length + 1)) rfl Tryd.underlying23 Tryd.ty33 rfl hp rfl (rfl) (by omega)) ?_
  refine Gx.eff rfl rfl rfl (eff_callE (vs := [mv, sCut 4 0 (k % (pays.length + 1)) pv]) rfl Tryd.fn7 rfl (R := fun v => ∃ (a a' : Option Addr) (m c m' c' : Nat) (z : Int), v = .tuple #[.slice a m c, .slice a' m' c', .int .i64 z]) (fun w H => play_some (hg.below H.below) (hm.below H.below) (hcut2.below H.below))) ?_
  rintro _ _ ⟨⟨a4, b5, p6, q7, r8, s9, z3, rfl⟩, rfl⟩
  refine Gx.val rfl rfl rfl (val_move rfl rfl) ?_
  refine Gx.val rfl rfl rfl (val_extract rfl rfl rfl) ?_
  refine Gx.val rfl rfl rfl (val_extract rfl rfl rfl) ?_
  refine Gx.val rfl rfl rfl (val_extract rfl rfl rfl) ?_
  refine Gx.val rfl rfl rfl (val_assign rfl rfl) ?_
  refine Gx.val rfl rfl rfl (val_assign rfl rfl) ?_
  refine Gx.val rfl rfl rfl (val_assign rfl rfl) ?_
  refine Gx.done ?_
  refine Gx.thenN ?_
  refine Gx.seq ?_
  refine Gx.seq ?_
  refine Gx.region ?_
  refine Gx.val rfl rfl rfl (val_move rfl rfl) ?_
  refine Gx.val rfl rfl rfl (val_neq rfl rfl rfl) ?_
  refine Gx.done ?_
  refine Gx.thenN ?_
  refine Gx.decT rfl (by assumption) ?_
  refine Gx.seq ?_
  refine Gx.region ?_
  refine Gx.val rfl rfl rfl (val_assign rfl rfl) ?_
  refine Gx.done ?_
  refine Gx.thenN ?_
  refine Gx.ret ?_
  refine Gx.thenR ?_
  refine Gx.ret1 Tryd.results6 rfl ?_
  rfl

theorem front_yes {W : World} {mv pv : Value} {money : List Int} {pays : List Py} {k : Nat} (hg : HG W) (hm : SlS FM 1 W mv money) (hp : SlS FP 4 W pv pays) (hk : k ≤ 255) (hok : OkL money pays.length) :
    Calls Tryd.prog 6 #[mv, pv, .int .u8 ((k : Nat) : Int)] W fun e w' => e = .returned (.bool true) ∧ Below W.heap.size W w' := by
  have hm1 := len_bd hm
  have hp1 := len_bd hp
  have hk9 := hk
  have hkm := Nat.mod_lt k (show 0 < pays.length + 1 by omega)
  refine calls_pure (Gx.enter (l := []) Tryd.func6 rfl Tryd.ntmps6 rfl (Sat.start W) ?_)
  refine Gx.know (m' := [(0, mv), (1, pv), (2, .int .u8 ((k : Nat) : Int))]) (.cons rfl (.cons rfl (.cons rfl .nil))) ?_
  refine Gx.seq ?_
  refine Gx.region ?_
  refine Gx.val rfl rfl rfl (val_assign rfl rfl) ?_
  refine Gx.done ?_
  refine Gx.thenN ?_
  refine Gx.seq ?_
  refine Gx.region ?_
  refine Gx.val rfl rfl rfl (val_move rfl rfl) ?_
  refine Gx.val rfl rfl rfl (val_move rfl rfl) ?_
  refine Gx.callB rfl rfl rfl (vs := [mv, pv]) rfl Tryd.fn7 rfl (R := fun v w' => ∃ av cv, v = .tuple #[av, cv, .int .i64 0] ∧ SlS FA 2 w' av (accsL (start0 money) pays) ∧ SlS FZ 1 w' cv (codesL (start0 money) pays)) (fun w H => play_ok (hg.below H.below) (hm.below H.below) (hp.below H.below) hok) ?_
  rintro _ W3 ⟨av2, cv1, rfl, hav2, hcv1⟩ H4
  have hW5 := H4.below
  have hs6 := hm.below H4.below
  have hs7 := hp.below H4.below
  have hg8 := hg.below H4.below
  have hclcv1 : (codesL (start0 money) pays).length = (pays).length := codesL_len ..
  have halav2 : (accsL (start0 money) pays).length = money.length := by rw [accsL_len, start_len]
  refine Gx.val rfl rfl rfl (val_move rfl rfl) ?_
  refine Gx.val rfl rfl rfl (val_extract rfl rfl rfl) ?_
  refine Gx.val rfl rfl rfl (val_extract rfl rfl rfl) ?_
  refine Gx.val rfl rfl rfl (val_extract rfl rfl rfl) ?_
  refine Gx.val rfl rfl rfl (val_assign rfl rfl) ?_
  refine Gx.val rfl rfl rfl (val_assign rfl rfl) ?_
  refine Gx.val rfl rfl rfl (val_assign rfl rfl) ?_
  refine Gx.done ?_
  refine Gx.thenN ?_
  refine Gx.seq ?_
  refine Gx.region ?_
  refine Gx.val rfl rfl rfl (val_move rfl rfl) ?_
  refine Gx.val rfl rfl rfl (val_conv rfl Tryd.underlying5 Tryd.underlying3 rfl (r := ((k : Nat) : Int)) (w64 rfl (by omega))) ?_
  refine Gx.val rfl rfl rfl (val_move rfl rfl) ?_
  refine Gx.val rfl rfl rfl (val_len rfl Tryd.underlying23 rfl (len_base hs7)) ?_
  refine Gx.val rfl rfl rfl (val_add rfl rfl rfl (r := ((pays.length + 1 : Nat) : Int)) (w64 (by omega) (by omega))) ?_
  refine Gx.val rfl rfl rfl (val_rem rfl rfl rfl (r := ((k % (pays.length + 1) : Nat) : Int)) (by omega) (rfl)) ?_
  refine Gx.val rfl rfl rfl (val_assign rfl rfl) ?_
  refine Gx.done ?_
  refine Gx.thenN ?_
  refine Gx.seq ?_
  refine Gx.region ?_
  refine Gx.val rfl rfl rfl (val_move rfl rfl) ?_
  refine Gx.val rfl rfl rfl (val_move rfl rfl) ?_
  refine Gx.val rfl rfl rfl (val_move rfl rfl) ?_
  have hcut9 : SlS FP 4 W3 (sCut 4 0 (k % (pays.length + 1)) pv) (pays.take (k % (pays.length + 1))) := (hs7).cut (lo := 0) (hi := k % (pays.length + 1)) (by omega) (by omega)
  refine Gx.val rfl rfl rfl (val_cutTo (up := k % (pays.length + 1)) rfl Tryd.underlying23 Tryd.ty33 rfl hs7 rfl (rfl) (by omega)) ?_
  refine Gx.callB rfl rfl rfl (vs := [mv, sCut 4 0 (k % (pays.length + 1)) pv]) rfl Tryd.fn7 rfl (R := fun v w' => ∃ av cv, v = .tuple #[av, cv, .int .i64 0] ∧ SlS FA 2 w' av (accsL (start0 money) (pays.take (k % (pays.length + 1)))) ∧ SlS FZ 1 w' cv (codesL (start0 money) (pays.take (k % (pays.length + 1))))) (fun w H => play_ok (hg8.below H.below) (hs6.below H.below) (hcut9.below H.below) (ok_take hok)) ?_
  rintro _ W12 ⟨av11, cv10, rfl, hav11, hcv10⟩ H13
  have hW14 := hW5.trans (H13.below.mono hW5.size)
  have hs15 := hs6.below H13.below
  have hs16 := hs7.below H13.below
  have hs17 := hcv1.below H13.below
  have hs18 := hav2.below H13.below
  have hs19 := hcut9.below H13.below
  have hg20 := hg8.below H13.below
  have hclcv10 : (codesL (start0 money) (pays.take (k % (pays.length + 1)))).length = ((pays.take (k % (pays.length + 1)))).length := codesL_len ..
  have halav11 : (accsL (start0 money) (pays.take (k % (pays.length + 1)))).length = money.length := by rw [accsL_len, start_len]
  refine Gx.val rfl rfl rfl (val_move rfl rfl) ?_
  refine Gx.val rfl rfl rfl (val_extract rfl rfl rfl) ?_
  refine Gx.val rfl rfl rfl (val_extract rfl rfl rfl) ?_
  refine Gx.val rfl rfl rfl (val_extract rfl rfl rfl) ?_
  refine Gx.val rfl rfl rfl (val_assign rfl rfl) ?_
  refine Gx.val rfl rfl rfl (val_assign rfl rfl) ?_
  refine Gx.val rfl rfl rfl (val_assign rfl rfl) ?_
  refine Gx.done ?_
  refine Gx.thenN ?_
  refine Gx.seq ?_
  refine Gx.seq ?_
  refine Gx.region ?_
  refine Gx.val rfl rfl rfl (val_move rfl rfl) ?_
  refine Gx.val rfl rfl rfl (Val.cast (val_neq rfl rfl rfl) (v' := .bool false) rfl) ?_
  refine Gx.done ?_
  refine Gx.thenN ?_
  refine Gx.f rfl ?_
  refine Gx.skip ?_
  refine Gx.thenN ?_
  refine Gx.seq ?_
  refine Gx.seq ?_
  refine Gx.region ?_
  refine Gx.val rfl rfl rfl (val_move rfl rfl) ?_
  refine Gx.val rfl rfl rfl (Val.cast (val_neq rfl rfl rfl) (v' := .bool false) rfl) ?_
  refine Gx.val rfl rfl rfl (val_move rfl rfl) ?_
  refine Gx.valg rfl rfl rfl rfl rfl (val_move rfl rfl) ?_
  refine Gx.valg rfl rfl rfl rfl rfl (val_len rfl Tryd.underlying24 rfl (len_base hs18)) ?_
  refine Gx.valg rfl rfl rfl rfl rfl (val_move rfl rfl) ?_
  refine Gx.valg rfl rfl rfl rfl rfl (val_len rfl Tryd.underlying22 rfl (len_base hs15)) ?_
  refine Gx.valg rfl rfl rfl rfl rfl (val_neq rfl rfl rfl) ?_
  refine Gx.val rfl rfl rfl (val_pickF rfl rfl rfl) ?_
  refine Gx.val rfl rfl rfl (val_move rfl rfl) ?_
  refine Gx.slot (t := 48) (v := .bool false) (look_decF rfl (by first | decide | omega)) ?_
  refine Gx.valg rfl rfl rfl rfl rfl (val_move rfl rfl) ?_
  refine Gx.valg rfl rfl rfl rfl rfl (val_len rfl Tryd.underlying24 rfl (len_base hav11)) ?_
  refine Gx.valg rfl rfl rfl rfl rfl (val_move rfl rfl) ?_
  refine Gx.valg rfl rfl rfl rfl rfl (val_len rfl Tryd.underlying22 rfl (len_base hs15)) ?_
  refine Gx.valg rfl rfl rfl rfl rfl (val_neq rfl rfl rfl) ?_
  refine Gx.val rfl rfl rfl (val_pickF rfl rfl rfl) ?_
  refine Gx.val rfl rfl rfl (val_move rfl rfl) ?_
  refine Gx.slot (t := 55) (v := .bool false) (look_decF rfl (by first | decide | omega)) ?_
  refine Gx.valg rfl rfl rfl rfl rfl (val_move rfl rfl) ?_
  refine Gx.valg rfl rfl rfl rfl rfl (val_len rfl Tryd.underlying25 rfl (len_base hs17)) ?_
  refine Gx.valg rfl rfl rfl rfl rfl (val_move rfl rfl) ?_
  refine Gx.valg rfl rfl rfl rfl rfl (val_len rfl Tryd.underlying23 rfl (len_base hs16)) ?_
  refine Gx.valg rfl rfl rfl rfl rfl (val_neq rfl rfl rfl) ?_
  refine Gx.val rfl rfl rfl (val_pickF rfl rfl rfl) ?_
  refine Gx.val rfl rfl rfl (val_move rfl rfl) ?_
  refine Gx.slot (t := 62) (v := .bool false) (look_decF rfl (by omega)) ?_
  refine Gx.valg rfl rfl rfl rfl rfl (val_move rfl rfl) ?_
  refine Gx.valg rfl rfl rfl rfl rfl (val_move rfl rfl) ?_
  refine Gx.valg rfl rfl rfl rfl rfl (val_move rfl rfl) ?_
  have hcut21 : SlS FZ 1 W12 (sCut 1 0 (k % (pays.length + 1)) cv1) ((codesL (start0 money) pays).take (k % (pays.length + 1))) := (hs17).cut (lo := 0) (hi := k % (pays.length + 1)) (by omega) (by omega)
  refine Gx.valg rfl rfl rfl rfl rfl (val_cutTo (up := k % (pays.length + 1)) rfl Tryd.underlying25 Tryd.ty26 rfl hs17 rfl (rfl) (by omega)) ?_
  refine Gx.valg rfl rfl rfl rfl rfl (val_call (vs := [cv10, sCut 1 0 (k % (pays.length + 1)) cv1]) rfl Tryd.fn10 rfl (fun w H => codes_any (hcv10.below H.below) (hcut21.below H.below))) ?_
  refine Gx.valg rfl rfl rfl rfl rfl (val_notD rfl rfl) ?_
  refine Gx.val rfl rfl rfl (val_pickF rfl rfl rfl) ?_
  refine Gx.done ?_
  refine Gx.thenN ?_
  refine Gx.decF rfl (fun q => q (codes_take (start0 money) pays _)) ?_
  refine Gx.skip ?_
  refine Gx.thenN ?_
  refine Gx.seq ?_
  refine Gx.seq ?_
  refine Gx.region ?_
  refine Gx.val rfl rfl rfl (val_assign rfl rfl) ?_
  refine Gx.done ?_
  refine Gx.thenN ?_
  refine Gx.block ?_
  refine Gx.loop (ι := Nat) (fun ξ => (ξ ≤ money.length)) (fun ξ => [(7, av2), (11, av11), (14, .int .i64 ((ξ : Nat) : Int))]) (fun ξ => []) (fun ξ => money.length - ξ) 0 (by first | omega | (dsimp only; omega)) ((.cons rfl (.cons rfl (.cons rfl .nil)))) rfl ?_
  rintro i hi
  refine Gx.know (m' := [(7, av2), (11, av11), (14, .int .i64 ((i : Nat) : Int))]) (.cons rfl (.cons rfl (.cons rfl .nil))) (Gx.norm (l' := []) rfl ?_)
  refine Gx.seq ?_
  refine Gx.seq ?_
  refine Gx.region ?_
  refine Gx.val rfl rfl rfl (val_move rfl rfl) ?_
  refine Gx.val rfl rfl rfl (val_move rfl rfl) ?_
  refine Gx.val rfl rfl rfl (val_len rfl Tryd.underlying24 rfl (len_base hs18)) ?_
  refine Gx.val rfl rfl rfl (val_lss rfl rfl rfl) ?_
  refine Gx.done ?_
  refine Gx.thenN ?_
  refine Gx.dec rfl (fun h22 => ?_) (fun h22 => ?_)
  · refine Gx.skip ?_
    refine Gx.thenN ?_
    refine Gx.seq ?_
    refine Gx.block ?_
    refine Gx.seq ?_
    refine Gx.regionQ Tryd.mixed (by kernel_rfl) ?_
    refine Gq.val rfl rfl rfl (val_move rfl rfl) ?_
    refine Gq.val rfl rfl rfl (val_move rfl rfl) ?_
    obtain ⟨x23, hx23⟩ := get_of_lt (xs := (accsL (start0 money) (pays.take (k % (pays.length + 1))))) (k := i) (by omega)
    refine Gq.val rfl rfl rfl (val_ixa rfl Tryd.underlying24 Tryd.ty31 rfl rfl (j := i) (rfl) (reach_base hav11 hx23)) ?_
    refine Gq.val rfl rfl rfl (Val.cast (val_fieldAddr rfl Tryd.underlying31 rfl Tryd.ty3 rfl rfl) (v' := ptr (sB av11) (sO av11 + i * 2 + 1)) rfl) ?_
    refine Gq.val rfl rfl rfl (val_load rfl Tryd.ty3 rfl rfl (cell_base (i := 1) hav11 hx23 rfl)) ?_
    refine Gq.val rfl rfl rfl (val_move rfl rfl) ?_
    refine Gq.val rfl rfl rfl (val_move rfl rfl) ?_
    obtain ⟨x24, hx24⟩ := get_of_lt (xs := (accsL (start0 money) pays)) (k := i) (by omega)
    refine Gq.val rfl rfl rfl (val_ixa rfl Tryd.underlying24 Tryd.ty31 rfl rfl (j := i) (rfl) (reach_base hs18 hx24)) ?_
    refine Gq.val rfl rfl rfl (Val.cast (val_fieldAddr rfl Tryd.underlying31 rfl Tryd.ty3 rfl rfl) (v' := ptr (sB av2) (sO av2 + i * 2 + 1)) rfl) ?_
    refine Gq.val rfl rfl rfl (val_load rfl Tryd.ty3 rfl rfl (cell_base (i := 1) hs18 hx24 rfl)) ?_
    refine Gq.val rfl rfl rfl (val_gtr rfl rfl rfl) ?_
    refine Gq.done ?_
    refine Gx.thenN ?_
    refine Gx.dec rfl (fun h25 => ?_) (fun h25 => ?_)
    · refine Gx.seq ?_
      refine Gx.region ?_
      refine Gx.val rfl rfl rfl (val_assign rfl rfl) ?_
      refine Gx.done ?_
      refine Gx.thenN ?_
      refine Gx.ret ?_
      refine Gx.blkR ?_
      refine Gx.thenR ?_
      refine Gx.thenR ?_
      refine Gx.blkR ?_
      refine Gx.thenR ?_
      exfalso
      have := front hx23 hx24
      omega
    · refine Gx.skip ?_
      refine Gx.blkN ?_
      refine Gx.thenN ?_
      refine Gx.region ?_
      refine Gx.val rfl rfl rfl (val_move rfl rfl) ?_
      refine Gx.val rfl rfl rfl (val_add rfl rfl rfl (r := ((i + 1 : Nat) : Int)) (w64 (by omega) (by omega))) ?_
      refine Gx.val rfl rfl rfl (val_assign rfl rfl) ?_
      refine Gx.done ?_
      refine Gx.thenN ?_
      exact Gx.round (i + 1) (by first | omega | (dsimp only; omega)) (by first | omega | (dsimp only; omega)) ((.cons rfl (.cons rfl (.cons rfl .nil)))) rfl
  · refine Gx.exit ?_
    refine Gx.thenE ?_
    refine Gx.thenE ?_
    refine Gx.blkE ?_
    refine Gx.thenN ?_
    refine Gx.seq ?_
    refine Gx.region ?_
    refine Gx.val rfl rfl rfl (val_assign rfl rfl) ?_
    refine Gx.done ?_
    refine Gx.thenN ?_
    refine Gx.ret ?_
    refine Gx.ret1B hW14 Tryd.results6 rfl ?_
    rfl

theorem front_any {W : World} {mv pv : Value} {money : List Int} {pays : List Py} {k : Int} (h0 : 0 ≤ k) (h1 : k ≤ 255) (hg : HG W) (hm : SlS FM 1 W mv money) (hp : SlS FP 4 W pv pays) :
    Calls Tryd.prog 6 #[mv, pv, .int .u8 k] W fun e w' => e = .returned (.bool true) ∧ Below W.heap.size W w' := by
  obtain ⟨j, rfl⟩ := Int.eq_ofNat_of_zero_le h0
  by_cases h : OkL money pays.length
  · exact front_yes hg hm hp (by omega) h
  · exact front_no hg hm hp (by omega) h
end Go.Proofs.YtbdlpomcmkojmaaDoor
