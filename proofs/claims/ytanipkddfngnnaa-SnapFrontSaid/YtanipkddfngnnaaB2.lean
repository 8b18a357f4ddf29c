/- What was noted stays. The walk. No condition. -/
import Derived.Test.YtanipkddfngnnaaB1
import Derived.Test.YtanipkddfngnnaaM3
namespace Go.Proofs.Ytanipkddfngnnaa
open Go.RowKit
set_option linter.unusedVariables false
set_option linter.unusedSimpArgs false
set_option maxRecDepth 100000

theorem ints_any {W : World} {va vb : Value} {xs ys : List Int} (ha : SlS FI 1 W va xs) (hb : SlS FI 1 W vb ys) : Calls Try.prog 13 #[va, vb] W fun e w' => e = .returned (.bool (decide (xs = ys))) ∧ Below W.heap.size W w' := by
  have m1 := sls_bd ha
  have m2 := sls_bd hb
  refine calls_pure (Gx.enter (l := []) Try.func13 rfl Try.ntmps13 rfl (Sat.start W) ?_)
  refine Gx.know (m' := [(0, va), (1, vb)]) (.cons rfl (.cons rfl .nil)) ?_
  refine Gx.seq ?_
  refine Gx.region ?_
  refine Gx.val rfl rfl rfl (val_assign rfl rfl) ?_
  refine Gx.done ?_
  refine Gx.thenN ?_
  refine Gx.seq ?_
  refine Gx.seq ?_
  refine Gx.region ?_
  refine Gx.val rfl rfl rfl (val_move rfl rfl) ?_
  refine Gx.val rfl rfl rfl (val_len rfl Try.underlying22 rfl (len_base ha)) ?_
  refine Gx.val rfl rfl rfl (val_move rfl rfl) ?_
  refine Gx.val rfl rfl rfl (val_len rfl Try.underlying22 rfl (len_base hb)) ?_
  refine Gx.val rfl rfl rfl (val_neq rfl rfl rfl) ?_
  refine Gx.done ?_
  refine Gx.thenN ?_
  refine Gx.dec rfl (fun h1 => ?_) (fun h1 => ?_)
  · refine Gx.seq ?_
    refine Gx.region ?_
    refine Gx.val rfl rfl rfl (val_assign rfl rfl) ?_
    refine Gx.done ?_
    refine Gx.thenN ?_
    refine Gx.ret ?_
    refine Gx.thenR ?_
    refine Gx.ret1 Try.results13 rfl ?_
    exact (congrArg Value.bool (decide_eq_false fun h => by subst h; omega)).symm
  · refine Gx.skip ?_
    refine Gx.thenN ?_
    refine Gx.seq ?_
    refine Gx.seq ?_
    refine Gx.region ?_
    refine Gx.val rfl rfl rfl (val_assign rfl rfl) ?_
    refine Gx.done ?_
    refine Gx.thenN ?_
    refine Gx.block ?_
    refine Gx.loop (ι := Nat) (fun ξ => (ξ ≤ xs.length) ∧ (∀ q, q < ξ → xs[q]? = ys[q]?)) (fun ξ => [(0, va), (1, vb), (5, .int .i64 ((ξ : Nat) : Int))]) (fun ξ => []) (fun ξ => xs.length - ξ) 0 ⟨by first | omega | (dsimp only; omega), by omega⟩ ((.cons rfl (.cons rfl (.cons rfl .nil)))) rfl ?_
    rintro k ⟨hk, he⟩
    refine Gx.know (m' := [(0, va), (1, vb), (5, .int .i64 ((k : Nat) : Int))]) (.cons rfl (.cons rfl (.cons rfl .nil))) (Gx.norm (l' := []) rfl ?_)
    refine Gx.seq ?_
    refine Gx.seq ?_
    refine Gx.region ?_
    refine Gx.val rfl rfl rfl (val_move rfl rfl) ?_
    refine Gx.val rfl rfl rfl (val_move rfl rfl) ?_
    refine Gx.val rfl rfl rfl (val_len rfl Try.underlying22 rfl (len_base ha)) ?_
    refine Gx.val rfl rfl rfl (val_lss rfl rfl rfl) ?_
    refine Gx.done ?_
    refine Gx.thenN ?_
    refine Gx.dec rfl (fun h2 => ?_) (fun h2 => ?_)
    · refine Gx.skip ?_
      refine Gx.thenN ?_
      refine Gx.seq ?_
      refine Gx.block ?_
      refine Gx.seq ?_
      refine Gx.regionQ Try.mixed (by kernel_rfl) ?_
      refine Gq.val rfl rfl rfl (val_move rfl rfl) ?_
      refine Gq.val rfl rfl rfl (val_move rfl rfl) ?_
      obtain ⟨x3, hx3⟩ := get_of_lt (xs := xs) (k := k) (by omega)
      refine Gq.val rfl rfl rfl (val_ixa rfl Try.underlying22 Try.ty3 rfl rfl (j := k) (rfl) (reach_base ha hx3)) ?_
      refine Gq.val rfl rfl rfl (val_load rfl Try.ty3 rfl rfl (cell_base (i := 0) ha hx3 rfl)) ?_
      refine Gq.val rfl rfl rfl (val_move rfl rfl) ?_
      refine Gq.val rfl rfl rfl (val_move rfl rfl) ?_
      obtain ⟨x4, hx4⟩ := get_of_lt (xs := ys) (k := k) (by omega)
      refine Gq.val rfl rfl rfl (val_ixa rfl Try.underlying22 Try.ty3 rfl rfl (j := k) (rfl) (reach_base hb hx4)) ?_
      refine Gq.val rfl rfl rfl (val_load rfl Try.ty3 rfl rfl (cell_base (i := 0) hb hx4 rfl)) ?_
      refine Gq.val rfl rfl rfl (val_neq rfl rfl rfl) ?_
      refine Gq.done ?_
      refine Gx.thenN ?_
      refine Gx.dec rfl (fun h5 => ?_) (fun h5 => ?_)
      · refine Gx.seq ?_
        refine Gx.region ?_
        refine Gx.val rfl rfl rfl (val_assign rfl rfl) ?_
        refine Gx.done ?_
        refine Gx.thenN ?_
        refine Gx.ret ?_
        refine Gx.blkR ?_
        refine Gx.thenR ?_
        refine Gx.thenR ?_
        refine Gx.blkR ?_
        refine Gx.thenR ?_
        refine Gx.ret1 Try.results13 rfl ?_
        exact (congrArg Value.bool (decide_eq_false fun h => by subst h; have q := hx3.symm.trans hx4; cases q; omega)).symm
      · refine Gx.skip ?_
        refine Gx.blkN ?_
        refine Gx.thenN ?_
        refine Gx.region ?_
        refine Gx.val rfl rfl rfl (val_move rfl rfl) ?_
        refine Gx.val rfl rfl rfl (val_add rfl rfl rfl (r := ((k + 1 : Nat) : Int)) (w64 (by omega) (by omega))) ?_
        refine Gx.val rfl rfl rfl (val_assign rfl rfl) ?_
        refine Gx.done ?_
        refine Gx.thenN ?_
        exact Gx.round (k + 1) ⟨by first | omega | (dsimp only; omega), fun q hq => by rcases Nat.lt_or_eq_of_le (Nat.le_of_lt_succ hq) with h | rfl; (exact he q h); (rw [hx3, hx4]; exact congrArg some (by omega))⟩ (by first | omega | (dsimp only; omega)) ((.cons rfl (.cons rfl (.cons rfl .nil)))) rfl
    · refine Gx.exit ?_
      refine Gx.thenE ?_
      refine Gx.thenE ?_
      refine Gx.blkE ?_
      refine Gx.thenN ?_
      refine Gx.seq ?_
      refine Gx.region ?_
      refine Gx.val rfl rfl rfl (val_assign rfl rfl) ?_
      refine Gx.done ?_
      refine Gx.thenN ?_
      refine Gx.ret ?_
      refine Gx.ret1 Try.results13 rfl ?_
      exact (congrArg Value.bool (decide_eq_true (List.ext_getElem? fun q => by rcases Nat.lt_or_ge q k with h | h; (exact he q h); (rw [List.getElem?_eq_none (by omega), List.getElem?_eq_none (by omega)])))).symm

theorem prefix_take {a b : List Int} (h : a <+: b) : a.length ≤ b.length ∧ b.take a.length = a := by
  obtain ⟨t, rfl⟩ := h
  exact ⟨by simp, List.take_left ..⟩
theorem begins_yes {W : World} {va vb : Value} {xs ys : List Int} (ha : SlS FI 1 W va xs) (hb : SlS FI 1 W vb ys) (hp : xs <+: ys) : Calls Try.prog 8 #[va, vb] W fun e w' => e = .returned (.bool true) ∧ Below W.heap.size W w' := by
  have m1 := sls_bd ha
  have m2 := sls_bd hb
  obtain ⟨hpl, hpt⟩ := prefix_take hp
  refine calls_pure (Gx.enter (l := []) Try.func8 rfl Try.ntmps8 rfl (Sat.start W) ?_)
  refine Gx.know (m' := [(0, va), (1, vb)]) (.cons rfl (.cons rfl .nil)) ?_
  refine Gx.seq ?_
  refine Gx.region ?_
  refine Gx.val rfl rfl rfl (val_assign rfl rfl) ?_
  refine Gx.done ?_
  refine Gx.thenN ?_
  refine Gx.seq ?_
  refine Gx.region ?_
  refine Gx.val rfl rfl rfl (val_move rfl rfl) ?_
  refine Gx.val rfl rfl rfl (val_len rfl Try.underlying22 rfl (len_base ha)) ?_
  refine Gx.val rfl rfl rfl (val_move rfl rfl) ?_
  refine Gx.val rfl rfl rfl (val_len rfl Try.underlying22 rfl (len_base hb)) ?_
  refine Gx.val rfl rfl rfl (val_leq rfl rfl rfl) ?_
  refine Gx.val rfl rfl rfl (val_move rfl rfl) ?_
  refine Gx.slot (t := 10) (v := .bool true) (look_decT rfl (by omega)) ?_
  refine Gx.valg rfl rfl rfl rfl rfl (val_move rfl rfl) ?_
  refine Gx.valg rfl rfl rfl rfl rfl (val_move rfl rfl) ?_
  refine Gx.valg rfl rfl rfl rfl rfl (val_move rfl rfl) ?_
  refine Gx.valg rfl rfl rfl rfl rfl (val_len rfl Try.underlying22 rfl (len_base ha)) ?_
  have hcut1 : SlS FI 1 W (sCut 1 0 xs.length vb) (ys.take xs.length) := (hb).cut (lo := 0) (hi := xs.length) (by omega) (by omega)
  refine Gx.valg rfl rfl rfl rfl rfl (val_cutTo (up := xs.length) rfl Try.underlying22 Try.ty3 rfl hb rfl (rfl) (by omega)) ?_
  refine Gx.valg rfl rfl rfl rfl rfl (val_call (vs := [va, sCut 1 0 xs.length vb]) rfl Try.fn13 rfl (fun w H => ints_any (ha.below H.below) (hcut1.below H.below))) ?_
  refine Gx.val rfl rfl rfl (val_pickT rfl rfl rfl) ?_
  refine Gx.val rfl rfl rfl (val_assign rfl rfl) ?_
  refine Gx.done ?_
  refine Gx.thenN ?_
  refine Gx.ret ?_
  refine Gx.ret1 Try.results8 rfl ?_
  first | rfl | exact congrArg Value.bool (decide_eq_true hpt.symm)

theorem play_some {W : World} {mv sv : Value} {money : List Int} {cs : List Mv} (hm : SlS FI 1 W mv money) (hs : SlS FM 4 W sv cs) :
    Calls Try.prog 7 #[mv, sv] W fun e w' => ∃ v, e = .returned v ∧ (∃ (a1 a2 a3 a4 : Option Addr) (m1 c1 m2 c2 m3 c3 m4 c4 : Nat) (dm : Bool) (z : Int), v = .tuple #[.agg #[.slice a1 m1 c1, .slice a2 m2 c2, .slice a3 m3 c3, .slice a4 m4 c4, .bool dm], .int .i64 z]) ∧ Below W.heap.size W w' := by
  by_cases h : money.length = 0 ∨ 6 < money.length ∨ 120 < cs.length
  · exact (play_no1 hm hs h).mono fun e w' ⟨he, hb⟩ => ⟨_, he, ⟨_, _, _, _, _, _, _, _, _, _, _, _, _, _, rfl⟩, hb⟩
  · by_cases h2 : 0 ≤ firstB money
    · exact (play_no2 hm hs h h2).mono fun e w' ⟨he, hb⟩ => ⟨_, he, ⟨_, _, _, _, _, _, _, _, _, _, _, _, _, _, rfl⟩, hb⟩
    · refine (play_ok hm hs (by omega) (by omega) (by omega) h2).mono fun e w' ⟨v, he, ⟨cv, wv, uv, bv, dm, vals, hv, h1, h2, h3, h4, _⟩, hb⟩ => ⟨v, he, ?_, hb⟩
      obtain ⟨_, _, _, rfl⟩ := h1.isS
      obtain ⟨_, _, _, rfl⟩ := h2.isS
      obtain ⟨_, _, _, rfl⟩ := h3.isS
      obtain ⟨_, _, _, rfl⟩ := h4.isS
      exact ⟨_, _, _, _, _, _, _, _, _, _, _, _, _, _, hv⟩
theorem front_no1 {W : World} {mv sv : Value} {money : List Int} {cs : List Mv} {k : Nat} (hm : SlS FI 1 W mv money) (hs : SlS FM 4 W sv cs) (hk : k ≤ 255) (hbad : money.length = 0 ∨ 6 < money.length ∨ 120 < cs.length) :
    Calls Try.prog 5 #[mv, sv, .int .u8 ((k : Nat) : Int)] W fun e w' => e = .returned (.bool true) ∧ Below W.heap.size W w' := by
  have hk9 := hk
  have hkm := Nat.mod_lt k (show 0 < cs.length + 1 by omega)
  have hm9 := sls_bd hs
  refine calls_pure (Gx.enter (l := []) Try.func5 rfl Try.ntmps5 rfl (Sat.start W) ?_)
  refine Gx.know (m' := [(0, mv), (1, sv), (2, .int .u8 ((k : Nat) : Int))]) (.cons rfl (.cons rfl (.cons rfl .nil))) ?_
  refine Gx.seq ?_
  refine Gx.region ?_
  refine Gx.val rfl rfl rfl (val_assign rfl rfl) ?_
  refine Gx.done ?_
  refine Gx.thenN ?_
  refine Gx.seq ?_
  refine Gx.region ?_
  refine Gx.val rfl rfl rfl (val_move rfl rfl) ?_
  refine Gx.val rfl rfl rfl (val_move rfl rfl) ?_
  refine Gx.val rfl rfl rfl (val_call (vs := [mv, sv]) rfl Try.fn7 rfl (fun w H => play_no1 (hm.below H.below) (hs.below H.below) hbad)) ?_
  refine Gx.val rfl rfl rfl (val_move rfl rfl) ?_
  refine Gx.val rfl rfl rfl (val_extract rfl rfl rfl) ?_
  refine Gx.val rfl rfl rfl (val_extract rfl rfl rfl) ?_
  refine Gx.eff rfl rfl rfl (eff_alloc rfl Try.ty27 (vs := [.slice none 0 0, .slice none 0 0, .slice none 0 0, .slice none 0 0, .bool false]) rfl) ?_
  rintro _ _ ⟨b1, rfl, rfl⟩
  refine Gx.eff0 rfl rfl (eff_store rfl Try.ty27 rfl rfl (us := [.slice none 0 0, .slice none 0 0, .slice none 0 0, .slice none 0 0, .bool false]) rfl rfl rfl (k := 0) rfl (rfl) (vs' := [.slice none 0 0, .slice none 0 0, .slice none 0 0, .slice none 0 0, .bool false]) (rfl) (l' := [Hp.rec_ b1 [.slice none 0 0, .slice none 0 0, .slice none 0 0, .slice none 0 0, .bool false]]) rfl) ?_
  rintro _ _ rfl
  refine Gx.val rfl rfl rfl (val_assign rfl rfl) ?_
  refine Gx.done ?_
  refine Gx.thenN ?_
  refine Gx.seq ?_
  refine Gx.region ?_
  refine Gx.val rfl rfl rfl (val_move rfl rfl) ?_
  refine Gx.val rfl rfl rfl (val_conv rfl Try.underlying5 Try.underlying3 rfl (r := ((k : Nat) : Int)) (w64 rfl (by omega))) ?_
  refine Gx.val rfl rfl rfl (val_move rfl rfl) ?_
  refine Gx.val rfl rfl rfl (val_len rfl Try.underlying23 rfl (len_base hs)) ?_
  refine Gx.val rfl rfl rfl (val_add rfl rfl rfl (r := ((cs.length + 1 : Nat) : Int)) (w64 (by omega) (by omega))) ?_
  refine Gx.val rfl rfl rfl (val_rem rfl rfl rfl (r := ((k % (cs.length + 1) : Nat) : Int)) (by omega) (rfl)) ?_
  refine Gx.val rfl rfl rfl (val_assign rfl rfl) ?_
  refine Gx.done ?_
  refine Gx.thenN ?_
  refine Gx.seq ?_
  refine Gx.region ?_
  refine Gx.val rfl rfl rfl (val_move rfl rfl) ?_
  refine Gx.val rfl rfl rfl (val_move rfl rfl) ?_
  refine Gx.val rfl rfl rfl (val_move rfl rfl) ?_
  have hcut2 : SlS FM 4 W (sCut 4 0 (k % (cs.length + 1)) sv) (cs.take (k % (cs.length + 1))) := (hs).cut (lo := 0) (hi := k % (cs.length + 1)) (by omega) (by omega)
  refine Gx.val rfl rfl rfl (val_cutTo (up := k % (cs.length + 1)) rfl Try.underlying23 Try.ty33 rfl hs rfl (rfl) (by omega)) ?_
  refine Gx.eff rfl rfl rfl (eff_callE (vs := [mv, sCut 4 0 (k % (cs.length + 1)) sv]) rfl Try.fn7 rfl (R := fun v => ∃ (a1 a2 a3 a4 : Option Addr) (m1 c1 m2 c2 m3 c3 m4 c4 : Nat) (dm : Bool) (z : Int), v = .tuple #[.agg #[.slice a1 m1 c1, .slice a2 m2 c2, .slice a3 m3 c3, .slice a4 m4 c4, .bool dm], .int .i64 z]) (fun w H => play_some (hm.below H.below) (hcut2.below H.below))) ?_
  rintro _ _ ⟨⟨za3, zb4, zc5, zd6, zm7, zm8, zm9, zm10, zm11, zm12, zm13, zm14, zf15, zz16, rfl⟩, rfl⟩
  refine Gx.val rfl rfl rfl (val_move rfl rfl) ?_
  refine Gx.val rfl rfl rfl (val_extract rfl rfl rfl) ?_
  refine Gx.val rfl rfl rfl (val_extract rfl rfl rfl) ?_
  refine Gx.eff rfl rfl rfl (eff_alloc rfl Try.ty27 (vs := [.slice none 0 0, .slice none 0 0, .slice none 0 0, .slice none 0 0, .bool false]) rfl) ?_
  rintro _ _ ⟨b17, rfl, rfl⟩
  refine Gx.eff0 rfl rfl (eff_store rfl Try.ty27 rfl rfl (us := [.slice za3 zm7 zm8, .slice zb4 zm9 zm10, .slice zc5 zm11 zm12, .slice zd6 zm13 zm14, .bool zf15]) rfl rfl rfl (k := 0) rfl (rfl) (vs' := [.slice za3 zm7 zm8, .slice zb4 zm9 zm10, .slice zc5 zm11 zm12, .slice zd6 zm13 zm14, .bool zf15]) (rfl) (l' := [Hp.rec_ b17 [.slice za3 zm7 zm8, .slice zb4 zm9 zm10, .slice zc5 zm11 zm12, .slice zd6 zm13 zm14, .bool zf15], Hp.rec_ b1 [.slice none 0 0, .slice none 0 0, .slice none 0 0, .slice none 0 0, .bool false]]) rfl) ?_
  rintro _ _ rfl
  refine Gx.val rfl rfl rfl (val_assign rfl rfl) ?_
  refine Gx.done ?_
  refine Gx.thenN ?_
  refine Gx.seq ?_
  refine Gx.seq ?_
  refine Gx.region ?_
  refine Gx.val rfl rfl rfl (val_move rfl rfl) ?_
  refine Gx.val rfl rfl rfl (Val.cast (val_neq rfl rfl rfl) (v' := .bool true) rfl) ?_
  refine Gx.done ?_
  refine Gx.thenN ?_
  refine Gx.t rfl ?_
  refine Gx.seq ?_
  refine Gx.region ?_
  refine Gx.val rfl rfl rfl (val_assign rfl rfl) ?_
  refine Gx.done ?_
  refine Gx.thenN ?_
  refine Gx.ret ?_
  refine Gx.thenR ?_
  refine Gx.ret1 Try.results5 rfl ?_
  rfl

theorem front_no2 {W : World} {mv sv : Value} {money : List Int} {cs : List Mv} {k : Nat} (hm : SlS FI 1 W mv money) (hs : SlS FM 4 W sv cs) (hk : k ≤ 255) (hok : ¬ (money.length = 0 ∨ 6 < money.length ∨ 120 < cs.length)) (hbad : 0 ≤ firstB money) :
    Calls Try.prog 5 #[mv, sv, .int .u8 ((k : Nat) : Int)] W fun e w' => e = .returned (.bool true) ∧ Below W.heap.size W w' := by
  have hk9 := hk
  have hkm := Nat.mod_lt k (show 0 < cs.length + 1 by omega)
  have hm9 := sls_bd hs
  refine calls_pure (Gx.enter (l := []) Try.func5 rfl Try.ntmps5 rfl (Sat.start W) ?_)
  refine Gx.know (m' := [(0, mv), (1, sv), (2, .int .u8 ((k : Nat) : Int))]) (.cons rfl (.cons rfl (.cons rfl .nil))) ?_
  refine Gx.seq ?_
  refine Gx.region ?_
  refine Gx.val rfl rfl rfl (val_assign rfl rfl) ?_
  refine Gx.done ?_
  refine Gx.thenN ?_
  refine Gx.seq ?_
  refine Gx.region ?_
  refine Gx.val rfl rfl rfl (val_move rfl rfl) ?_
  refine Gx.val rfl rfl rfl (val_move rfl rfl) ?_
  refine Gx.val rfl rfl rfl (val_call (vs := [mv, sv]) rfl Try.fn7 rfl (fun w H => play_no2 (hm.below H.below) (hs.below H.below) hok hbad)) ?_
  refine Gx.val rfl rfl rfl (val_move rfl rfl) ?_
  refine Gx.val rfl rfl rfl (val_extract rfl rfl rfl) ?_
  refine Gx.val rfl rfl rfl (val_extract rfl rfl rfl) ?_
  refine Gx.eff rfl rfl rfl (eff_alloc rfl Try.ty27 (vs := [.slice none 0 0, .slice none 0 0, .slice none 0 0, .slice none 0 0, .bool false]) rfl) ?_
  rintro _ _ ⟨b1, rfl, rfl⟩
  refine Gx.eff0 rfl rfl (eff_store rfl Try.ty27 rfl rfl (us := [.slice none 0 0, .slice none 0 0, .slice none 0 0, .slice none 0 0, .bool false]) rfl rfl rfl (k := 0) rfl (rfl) (vs' := [.slice none 0 0, .slice none 0 0, .slice none 0 0, .slice none 0 0, .bool false]) (rfl) (l' := [Hp.rec_ b1 [.slice none 0 0, .slice none 0 0, .slice none 0 0, .slice none 0 0, .bool false]]) rfl) ?_
  rintro _ _ rfl
  refine Gx.val rfl rfl rfl (val_assign rfl rfl) ?_
  refine Gx.done ?_
  refine Gx.thenN ?_
  refine Gx.seq ?_
  refine Gx.region ?_
  refine Gx.val rfl rfl rfl (val_move rfl rfl) ?_
  refine Gx.val rfl rfl rfl (val_conv rfl Try.underlying5 Try.underlying3 rfl (r := ((k : Nat) : Int)) (w64 rfl (by omega))) ?_
  refine Gx.val rfl rfl rfl (val_move rfl rfl) ?_
  refine Gx.val rfl rfl rfl (val_len rfl Try.underlying23 rfl (len_base hs)) ?_
  refine Gx.val rfl rfl rfl (val_add rfl rfl rfl (r := ((cs.length + 1 : Nat) : Int)) (w64 (by omega) (by omega))) ?_
  refine Gx.val rfl rfl rfl (val_rem rfl rfl rfl (r := ((k % (cs.length + 1) : Nat) : Int)) (by omega) (rfl)) ?_
  refine Gx.val rfl rfl rfl (val_assign rfl rfl) ?_
  refine Gx.done ?_
  refine Gx.thenN ?_
  refine Gx.seq ?_
  refine Gx.region ?_
  refine Gx.val rfl rfl rfl (val_move rfl rfl) ?_
  refine Gx.val rfl rfl rfl (val_move rfl rfl) ?_
  refine Gx.val rfl rfl rfl (val_move rfl rfl) ?_
  have hcut2 : SlS FM 4 W (sCut 4 0 (k % (cs.length + 1)) sv) (cs.take (k % (cs.length + 1))) := (hs).cut (lo := 0) (hi := k % (cs.length + 1)) (by omega) (by omega)
  refine Gx.val rfl rfl rfl (val_cutTo (up := k % (cs.length + 1)) rfl Try.underlying23 Try.ty33 rfl hs rfl (rfl) (by omega)) ?_
  refine Gx.eff rfl rfl rfl (eff_callE (vs := [mv, sCut 4 0 (k % (cs.length + 1)) sv]) rfl Try.fn7 rfl (R := fun v => ∃ (a1 a2 a3 a4 : Option Addr) (m1 c1 m2 c2 m3 c3 m4 c4 : Nat) (dm : Bool) (z : Int), v = .tuple #[.agg #[.slice a1 m1 c1, .slice a2 m2 c2, .slice a3 m3 c3, .slice a4 m4 c4, .bool dm], .int .i64 z]) (fun w H => play_some (hm.below H.below) (hcut2.below H.below))) ?_
  rintro _ _ ⟨⟨za3, zb4, zc5, zd6, zm7, zm8, zm9, zm10, zm11, zm12, zm13, zm14, zf15, zz16, rfl⟩, rfl⟩
  refine Gx.val rfl rfl rfl (val_move rfl rfl) ?_
  refine Gx.val rfl rfl rfl (val_extract rfl rfl rfl) ?_
  refine Gx.val rfl rfl rfl (val_extract rfl rfl rfl) ?_
  refine Gx.eff rfl rfl rfl (eff_alloc rfl Try.ty27 (vs := [.slice none 0 0, .slice none 0 0, .slice none 0 0, .slice none 0 0, .bool false]) rfl) ?_
  rintro _ _ ⟨b17, rfl, rfl⟩
  refine Gx.eff0 rfl rfl (eff_store rfl Try.ty27 rfl rfl (us := [.slice za3 zm7 zm8, .slice zb4 zm9 zm10, .slice zc5 zm11 zm12, .slice zd6 zm13 zm14, .bool zf15]) rfl rfl rfl (k := 0) rfl (rfl) (vs' := [.slice za3 zm7 zm8, .slice zb4 zm9 zm10, .slice zc5 zm11 zm12, .slice zd6 zm13 zm14, .bool zf15]) (rfl) (l' := [Hp.rec_ b17 [.slice za3 zm7 zm8, .slice zb4 zm9 zm10, .slice zc5 zm11 zm12, .slice zd6 zm13 zm14, .bool zf15], Hp.rec_ b1 [.slice none 0 0, .slice none 0 0, .slice none 0 0, .slice none 0 0, .bool false]]) rfl) ?_
  rintro _ _ rfl
  refine Gx.val rfl rfl rfl (val_assign rfl rfl) ?_
  refine Gx.done ?_
  refine Gx.thenN ?_
  refine Gx.seq ?_
  refine Gx.seq ?_
  refine Gx.region ?_
  refine Gx.val rfl rfl rfl (val_move rfl rfl) ?_
  refine Gx.val rfl rfl rfl (Val.cast (val_neq rfl rfl rfl) (v' := .bool true) rfl) ?_
  refine Gx.done ?_
  refine Gx.thenN ?_
  refine Gx.t rfl ?_
  refine Gx.seq ?_
  refine Gx.region ?_
  refine Gx.val rfl rfl rfl (val_assign rfl rfl) ?_
  refine Gx.done ?_
  refine Gx.thenN ?_
  refine Gx.ret ?_
  refine Gx.thenR ?_
  refine Gx.ret1 Try.results5 rfl ?_
  rfl

theorem front_yes {W : World} {mv sv : Value} {money : List Int} {cs : List Mv} {k : Nat} (hm : SlS FI 1 W mv money) (hs : SlS FM 4 W sv cs) (hk : k ≤ 255) (h1 : 1 ≤ money.length) (h6 : money.length ≤ 6) (hcl : cs.length ≤ 120) (hbad : ¬ 0 ≤ firstB money) :
    Calls Try.prog 5 #[mv, sv, .int .u8 ((k : Nat) : Int)] W fun e w' => e = .returned (.bool true) ∧ Below W.heap.size W w' := by
  have hk9 := hk
  have hkm := Nat.mod_lt k (show 0 < cs.length + 1 by omega)
  have hm9 := sls_bd hs
  have hlt : (cs.take (k % (cs.length + 1))).length = k % (cs.length + 1) := by rw [List.length_take]; omega
  have hm0 : ∀ x ∈ money, 0 ≤ x := fun x hx => (firstB_ok hbad x hx).1
  have hnn : money.length * money.length ≤ 36 := Nat.mul_le_mul h6 h6
  have hle : LeS (stS (ss0 money) (cs.take (k % (cs.length + 1)))) (stS (ss0 money) cs) := LeS.front h6 (BdS.zero hm0) cs _
  refine calls_pure (Gx.enter (l := []) Try.func5 rfl Try.ntmps5 rfl (Sat.start W) ?_)
  refine Gx.know (m' := [(0, mv), (1, sv), (2, .int .u8 ((k : Nat) : Int))]) (.cons rfl (.cons rfl (.cons rfl .nil))) ?_
  refine Gx.seq ?_
  refine Gx.region ?_
  refine Gx.val rfl rfl rfl (val_assign rfl rfl) ?_
  refine Gx.done ?_
  refine Gx.thenN ?_
  refine Gx.seq ?_
  refine Gx.region ?_
  refine Gx.val rfl rfl rfl (val_move rfl rfl) ?_
  refine Gx.val rfl rfl rfl (val_move rfl rfl) ?_
  refine Gx.callB rfl rfl rfl (vs := [mv, sv]) rfl Try.fn7 rfl (R := fun v w' => ∃ (cv wv uv bv : Value) (dm : Bool) (vals : List Sv), v = .tuple #[.agg #[cv, wv, uv, bv, .bool dm], .int .i64 0] ∧ SlS FZ 1 w' cv (codesS (ss0 money) cs) ∧ SlS FI 1 w' wv ((stS (ss0 money) cs).ps.map Pr.mo) ∧ SlS FI 1 w' uv ((stS (ss0 money) cs).ps.map Pr.ow) ∧ SlS FV 1 w' bv vals ∧ vals.length = money.length * money.length ∧ (∀ (kw : Nat) (v : Sv), vals[kw]? = some v → SlS FI 1 w' (.slice v.a v.n v.c) (nts (stS (ss0 money) cs) money.length kw)) ∧ (dm = true ↔ DoneS (stS (ss0 money) cs) money.length)) (fun w H => play_ok (hm.below H.below) (hs.below H.below) h1 h6 (by omega) hbad) ?_
  rintro _ W7 ⟨cv1, wv2, uv3, bv4, dm5, vals6, rfl, hcv1, hwv2, huv3, hbv4, hlbv4, hrbv4, hddm5⟩ H8
  have hW9 := H8.below
  have hs10 := hm.below H8.below
  have hs11 := hs.below H8.below
  have hclcv1 : (codesS (ss0 money) cs).length = (cs).length := codesS_len ..
  have hplcv1 : (stS (ss0 money) cs).ps.length = money.length := ((BdS.zero hm0).run h6 cs).len
  have hmlcv1 : ((stS (ss0 money) cs).ps.map Pr.mo).length = money.length := by rw [List.length_map]; exact hplcv1
  have holcv1 : ((stS (ss0 money) cs).ps.map Pr.ow).length = money.length := by rw [List.length_map]; exact hplcv1
  obtain ⟨sa12, sn13, sc14, rfl⟩ := hcv1.isS
  obtain ⟨sa15, sn16, sc17, rfl⟩ := hwv2.isS
  obtain ⟨sa18, sn19, sc20, rfl⟩ := huv3.isS
  obtain ⟨sa21, sn22, sc23, rfl⟩ := hbv4.isS
  refine Gx.val rfl rfl rfl (val_move rfl rfl) ?_
  refine Gx.val rfl rfl rfl (val_extract rfl rfl rfl) ?_
  refine Gx.val rfl rfl rfl (val_extract rfl rfl rfl) ?_
  refine Gx.eff rfl rfl rfl (eff_alloc rfl Try.ty27 (vs := [.slice none 0 0, .slice none 0 0, .slice none 0 0, .slice none 0 0, .bool false]) rfl) ?_
  rintro _ _ ⟨b24, rfl, rfl⟩
  refine Gx.eff0 rfl rfl (eff_store rfl Try.ty27 rfl rfl (us := [.slice sa12 sn13 sc14, .slice sa15 sn16 sc17, .slice sa18 sn19 sc20, .slice sa21 sn22 sc23, .bool dm5]) rfl rfl rfl (k := 0) rfl (rfl) (vs' := [.slice sa12 sn13 sc14, .slice sa15 sn16 sc17, .slice sa18 sn19 sc20, .slice sa21 sn22 sc23, .bool dm5]) (rfl) (l' := [Hp.rec_ b24 [.slice sa12 sn13 sc14, .slice sa15 sn16 sc17, .slice sa18 sn19 sc20, .slice sa21 sn22 sc23, .bool dm5]]) rfl) ?_
  rintro _ _ rfl
  refine Gx.val rfl rfl rfl (val_assign rfl rfl) ?_
  refine Gx.done ?_
  refine Gx.thenN ?_
  refine Gx.seq ?_
  refine Gx.region ?_
  refine Gx.val rfl rfl rfl (val_move rfl rfl) ?_
  refine Gx.val rfl rfl rfl (val_conv rfl Try.underlying5 Try.underlying3 rfl (r := ((k : Nat) : Int)) (w64 rfl (by omega))) ?_
  refine Gx.val rfl rfl rfl (val_move rfl rfl) ?_
  refine Gx.val rfl rfl rfl (val_len rfl Try.underlying23 rfl (len_base hs11)) ?_
  refine Gx.val rfl rfl rfl (val_add rfl rfl rfl (r := ((cs.length + 1 : Nat) : Int)) (w64 (by omega) (by omega))) ?_
  refine Gx.val rfl rfl rfl (val_rem rfl rfl rfl (r := ((k % (cs.length + 1) : Nat) : Int)) (by omega) (rfl)) ?_
  refine Gx.val rfl rfl rfl (val_assign rfl rfl) ?_
  refine Gx.done ?_
  refine Gx.thenN ?_
  refine Gx.seq ?_
  refine Gx.region ?_
  refine Gx.val rfl rfl rfl (val_move rfl rfl) ?_
  refine Gx.val rfl rfl rfl (val_move rfl rfl) ?_
  refine Gx.val rfl rfl rfl (val_move rfl rfl) ?_
  have hcut25 : SlS FM 4 W7 (sCut 4 0 (k % (cs.length + 1)) sv) (cs.take (k % (cs.length + 1))) := (hs11).cut (lo := 0) (hi := k % (cs.length + 1)) (by omega) (by omega)
  refine Gx.val rfl rfl rfl (val_cutTo (up := k % (cs.length + 1)) rfl Try.underlying23 Try.ty33 rfl hs11 rfl (rfl) (by omega)) ?_
  refine Gx.callB rfl rfl rfl (vs := [mv, sCut 4 0 (k % (cs.length + 1)) sv]) rfl Try.fn7 rfl (R := fun v w' => ∃ (cv wv uv bv : Value) (dm : Bool) (vals : List Sv), v = .tuple #[.agg #[cv, wv, uv, bv, .bool dm], .int .i64 0] ∧ SlS FZ 1 w' cv (codesS (ss0 money) (cs.take (k % (cs.length + 1)))) ∧ SlS FI 1 w' wv ((stS (ss0 money) (cs.take (k % (cs.length + 1)))).ps.map Pr.mo) ∧ SlS FI 1 w' uv ((stS (ss0 money) (cs.take (k % (cs.length + 1)))).ps.map Pr.ow) ∧ SlS FV 1 w' bv vals ∧ vals.length = money.length * money.length ∧ (∀ (kw : Nat) (v : Sv), vals[kw]? = some v → SlS FI 1 w' (.slice v.a v.n v.c) (nts (stS (ss0 money) (cs.take (k % (cs.length + 1)))) money.length kw)) ∧ (dm = true ↔ DoneS (stS (ss0 money) (cs.take (k % (cs.length + 1)))) money.length)) (fun w H => play_ok (hs10.below H.below) (hcut25.below H.below) h1 h6 (by rw [List.length_take]; omega) hbad) ?_
  rintro _ W32 ⟨cv26, wv27, uv28, bv29, dm30, vals31, rfl, hcv26, hwv27, huv28, hbv29, hlbv29, hrbv29, hddm30⟩ H33
  have hW34 := hW9.trans (H33.below.mono hW9.size)
  have hs35 := hs10.below H33.below
  have hs36 := hs11.below H33.below
  have hs37 := hcv1.below H33.below
  have hs38 := hwv2.below H33.below
  have hs39 := huv3.below H33.below
  have hs40 := hbv4.below H33.below
  have hs41 := hcut25.below H33.below
  have hb42 := (H33.at_ (k := 0) rfl).rec_.1
  have hc43 := (H33.at_ (k := 0) rfl).cell 0 (u := .slice sa12 sn13 sc14) rfl
  have hc44 := (H33.at_ (k := 0) rfl).cell 1 (u := .slice sa15 sn16 sc17) rfl
  have hc45 := (H33.at_ (k := 0) rfl).cell 2 (u := .slice sa18 sn19 sc20) rfl
  have hc46 := (H33.at_ (k := 0) rfl).cell 3 (u := .slice sa21 sn22 sc23) rfl
  have hc47 := (H33.at_ (k := 0) rfl).cell 4 (u := .bool dm5) rfl
  have hclcv26 : (codesS (ss0 money) (cs.take (k % (cs.length + 1)))).length = ((cs.take (k % (cs.length + 1)))).length := codesS_len ..
  have hplcv26 : (stS (ss0 money) (cs.take (k % (cs.length + 1)))).ps.length = money.length := ((BdS.zero hm0).run h6 (cs.take (k % (cs.length + 1)))).len
  have hmlcv26 : ((stS (ss0 money) (cs.take (k % (cs.length + 1)))).ps.map Pr.mo).length = money.length := by rw [List.length_map]; exact hplcv26
  have holcv26 : ((stS (ss0 money) (cs.take (k % (cs.length + 1)))).ps.map Pr.ow).length = money.length := by rw [List.length_map]; exact hplcv26
  obtain ⟨sa48, sn49, sc50, rfl⟩ := hcv26.isS
  obtain ⟨sa51, sn52, sc53, rfl⟩ := hwv27.isS
  obtain ⟨sa54, sn55, sc56, rfl⟩ := huv28.isS
  obtain ⟨sa57, sn58, sc59, rfl⟩ := hbv29.isS
  have hr1 : ∀ (kw : Nat) (v : Sv), vals6[kw]? = some v → SlS FI 1 W32 (.slice v.a v.n v.c) (nts (stS (ss0 money) cs) money.length kw) := fun kw v h => (hrbv4 kw v h).below H33.below
  refine Gx.val rfl rfl rfl (val_move rfl rfl) ?_
  refine Gx.val rfl rfl rfl (val_extract rfl rfl rfl) ?_
  refine Gx.val rfl rfl rfl (val_extract rfl rfl rfl) ?_
  refine Gx.eff rfl rfl rfl (eff_alloc rfl Try.ty27 (vs := [.slice none 0 0, .slice none 0 0, .slice none 0 0, .slice none 0 0, .bool false]) rfl) ?_
  rintro _ _ ⟨b60, rfl, rfl⟩
  refine Gx.eff0 rfl rfl (eff_store rfl Try.ty27 rfl rfl (us := [.slice sa48 sn49 sc50, .slice sa51 sn52 sc53, .slice sa54 sn55 sc56, .slice sa57 sn58 sc59, .bool dm30]) rfl rfl rfl (k := 0) rfl (rfl) (vs' := [.slice sa48 sn49 sc50, .slice sa51 sn52 sc53, .slice sa54 sn55 sc56, .slice sa57 sn58 sc59, .bool dm30]) (rfl) (l' := [Hp.rec_ b60 [.slice sa48 sn49 sc50, .slice sa51 sn52 sc53, .slice sa54 sn55 sc56, .slice sa57 sn58 sc59, .bool dm30]]) rfl) ?_
  rintro _ _ rfl
  refine Gx.val rfl rfl rfl (val_assign rfl rfl) ?_
  refine Gx.done ?_
  refine Gx.thenN ?_
  refine Gx.seq ?_
  refine Gx.seq ?_
  refine Gx.region ?_
  refine Gx.val rfl rfl rfl (val_move rfl rfl) ?_
  refine Gx.val rfl rfl rfl (Val.cast (val_neq rfl rfl rfl) (v' := .bool false) rfl) ?_
  refine Gx.done ?_
  refine Gx.thenN ?_
  refine Gx.f rfl ?_
  refine Gx.skip ?_
  refine Gx.thenN ?_
  refine Gx.seq ?_
  refine Gx.region ?_
  refine Gx.val rfl rfl rfl (val_move rfl rfl) ?_
  refine Gx.val rfl rfl rfl (val_len rfl Try.underlying22 rfl (len_base hs35)) ?_
  refine Gx.val rfl rfl rfl (val_assign rfl rfl) ?_
  refine Gx.done ?_
  refine Gx.thenN ?_
  refine Gx.seq ?_
  refine Gx.seq ?_
  refine Gx.region ?_
  refine Gx.val rfl rfl rfl (val_move rfl rfl) ?_
  refine Gx.val rfl rfl rfl (Val.cast (val_neq rfl rfl rfl) (v' := .bool false) rfl) ?_
  refine Gx.val rfl rfl rfl (val_move rfl rfl) ?_
  refine Gx.valg rfl rfl rfl rfl rfl (Val.cast (val_fieldAddr rfl Try.underlying27 rfl Try.ty22 rfl rfl) (v' := ptr b24 2) rfl) ?_
  refine Gx.valg rfl rfl rfl rfl rfl (val_load rfl Try.ty22 rfl rfl (cell_old hb42 hc45)) ?_
  refine Gx.valg rfl rfl rfl rfl rfl (val_len rfl Try.underlying22 rfl (len_base hs39)) ?_
  refine Gx.valg rfl rfl rfl rfl rfl (val_move rfl rfl) ?_
  refine Gx.valg rfl rfl rfl rfl rfl (val_neq rfl rfl rfl) ?_
  refine Gx.val rfl rfl rfl (val_pickF rfl rfl rfl) ?_
  refine Gx.val rfl rfl rfl (val_move rfl rfl) ?_
  refine Gx.slot (t := 48) (v := .bool false) (look_decF rfl (by omega)) ?_
  refine Gx.valg rfl rfl rfl rfl rfl (Val.cast (val_fieldAddr rfl Try.underlying27 rfl Try.ty22 rfl rfl) (v' := ptr b60 2) rfl) ?_
  refine Gx.valg rfl rfl rfl rfl rfl (val_load rfl Try.ty22 rfl rfl (cell_rec (k := 0) rfl rfl)) ?_
  refine Gx.valg rfl rfl rfl rfl rfl (val_len rfl Try.underlying22 rfl (len_base huv28)) ?_
  refine Gx.valg rfl rfl rfl rfl rfl (val_move rfl rfl) ?_
  refine Gx.valg rfl rfl rfl rfl rfl (val_neq rfl rfl rfl) ?_
  refine Gx.val rfl rfl rfl (val_pickF rfl rfl rfl) ?_
  refine Gx.val rfl rfl rfl (val_move rfl rfl) ?_
  refine Gx.slot (t := 55) (v := .bool false) (look_decF rfl (by omega)) ?_
  refine Gx.valg rfl rfl rfl rfl rfl (Val.cast (val_fieldAddr rfl Try.underlying27 rfl Try.ty25 rfl rfl) (v' := ptr b24 3) rfl) ?_
  refine Gx.valg rfl rfl rfl rfl rfl (val_load rfl Try.ty25 rfl rfl (cell_old hb42 hc46)) ?_
  refine Gx.valg rfl rfl rfl rfl rfl (val_len rfl Try.underlying25 rfl (len_base hs40)) ?_
  refine Gx.valg rfl rfl rfl rfl rfl (val_move rfl rfl) ?_
  refine Gx.valg rfl rfl rfl rfl rfl (val_move rfl rfl) ?_
  refine Gx.valg rfl rfl rfl rfl rfl (val_mul rfl rfl rfl (r := ((money.length * money.length : Nat) : Int)) (w64 (by omega) (by omega))) ?_
  refine Gx.valg rfl rfl rfl rfl rfl (val_neq rfl rfl rfl) ?_
  refine Gx.val rfl rfl rfl (val_pickF rfl rfl rfl) ?_
  refine Gx.val rfl rfl rfl (val_move rfl rfl) ?_
  refine Gx.slot (t := 64) (v := .bool false) (look_decF rfl (by omega)) ?_
  refine Gx.valg rfl rfl rfl rfl rfl (Val.cast (val_fieldAddr rfl Try.underlying27 rfl Try.ty25 rfl rfl) (v' := ptr b60 3) rfl) ?_
  refine Gx.valg rfl rfl rfl rfl rfl (val_load rfl Try.ty25 rfl rfl (cell_rec (k := 0) rfl rfl)) ?_
  refine Gx.valg rfl rfl rfl rfl rfl (val_len rfl Try.underlying25 rfl (len_base hbv29)) ?_
  refine Gx.valg rfl rfl rfl rfl rfl (val_move rfl rfl) ?_
  refine Gx.valg rfl rfl rfl rfl rfl (val_move rfl rfl) ?_
  refine Gx.valg rfl rfl rfl rfl rfl (val_mul rfl rfl rfl (r := ((money.length * money.length : Nat) : Int)) (w64 (by omega) (by omega))) ?_
  refine Gx.valg rfl rfl rfl rfl rfl (val_neq rfl rfl rfl) ?_
  refine Gx.val rfl rfl rfl (val_pickF rfl rfl rfl) ?_
  refine Gx.val rfl rfl rfl (val_move rfl rfl) ?_
  refine Gx.slot (t := 73) (v := .bool false) (look_decF rfl (by omega)) ?_
  refine Gx.valg rfl rfl rfl rfl rfl (Val.cast (val_fieldAddr rfl Try.underlying27 rfl Try.ty24 rfl rfl) (v' := ptr b24 0) rfl) ?_
  refine Gx.valg rfl rfl rfl rfl rfl (val_load rfl Try.ty24 rfl rfl (cell_old hb42 hc43)) ?_
  refine Gx.valg rfl rfl rfl rfl rfl (val_len rfl Try.underlying24 rfl (len_base hs37)) ?_
  refine Gx.valg rfl rfl rfl rfl rfl (val_move rfl rfl) ?_
  refine Gx.valg rfl rfl rfl rfl rfl (val_len rfl Try.underlying23 rfl (len_base hs36)) ?_
  refine Gx.valg rfl rfl rfl rfl rfl (val_neq rfl rfl rfl) ?_
  refine Gx.val rfl rfl rfl (val_pickF rfl rfl rfl) ?_
  refine Gx.val rfl rfl rfl (val_move rfl rfl) ?_
  refine Gx.slot (t := 81) (v := .bool false) (look_decF rfl (by omega)) ?_
  refine Gx.valg rfl rfl rfl rfl rfl (Val.cast (val_fieldAddr rfl Try.underlying27 rfl Try.ty4 rfl rfl) (v' := ptr b60 4) rfl) ?_
  refine Gx.valg rfl rfl rfl rfl rfl (val_load rfl Try.ty4 rfl rfl (cell_rec (k := 0) rfl rfl)) ?_
  refine Gx.valg rfl rfl rfl rfl rfl (val_move rfl rfl) ?_
  refine Gx.casesB (t := 84) rfl (fun h61 => ?_) (fun h61 => ?_)
  · refine Gx.valg rfl rfl rfl rfl rfl (Val.cast (val_fieldAddr rfl Try.underlying27 rfl Try.ty4 rfl rfl) (v' := ptr b24 4) rfl) ?_
    refine Gx.valg rfl rfl rfl rfl rfl (val_load rfl Try.ty4 rfl rfl (cell_old hb42 hc47)) ?_
    refine Gx.valg rfl rfl rfl rfl rfl (val_not rfl rfl) ?_
    refine Gx.valg rfl rfl rfl rfl rfl (val_pickT rfl rfl rfl) ?_
    refine Gx.val rfl rfl rfl (val_pickF rfl rfl rfl) ?_
    refine Gx.done ?_
    refine Gx.thenN ?_
    refine Gx.bool rfl (fun h62 => ?_) (fun h62 => ?_)
    · refine Gx.seq ?_
      exfalso
      have h8 := hddm5.2 (hle.done (hddm30.1 (by assumption)))
      simp_all
    · refine Gx.skip ?_
      refine Gx.thenN ?_
      refine Gx.seq ?_
      refine Gx.seq ?_
      refine Gx.region ?_
      refine Gx.val rfl rfl rfl (val_assign rfl rfl) ?_
      refine Gx.done ?_
      refine Gx.thenN ?_
      refine Gx.block ?_
      refine Gx.loop (ι := Nat) (fun ξ => (ξ ≤ money.length)) (fun ξ => [(7, ptr b24 0), (10, ptr b60 0), (12, .int .i64 ((money.length : Nat) : Int)), (13, .int .i64 ((ξ : Nat) : Int))]) (fun ξ => [Hp.rec_ b60 [.slice sa48 sn49 sc50, .slice sa51 sn52 sc53, .slice sa54 sn55 sc56, .slice sa57 sn58 sc59, .bool dm30]]) (fun ξ => money.length - ξ) 0 (by first | omega | (dsimp only; omega)) ((.cons rfl (.cons rfl (.cons rfl (.cons rfl .nil))))) rfl ?_
      rintro i hi
      refine Gx.know (m' := [(7, ptr b24 0), (10, ptr b60 0), (12, .int .i64 ((money.length : Nat) : Int)), (13, .int .i64 ((i : Nat) : Int))]) (.cons rfl (.cons rfl (.cons rfl (.cons rfl .nil)))) (Gx.norm (l' := [Hp.rec_ b60 [.slice sa48 sn49 sc50, .slice sa51 sn52 sc53, .slice sa54 sn55 sc56, .slice sa57 sn58 sc59, .bool dm30]]) rfl ?_)
      refine Gx.seq ?_
      refine Gx.seq ?_
      refine Gx.region ?_
      refine Gx.val rfl rfl rfl (val_move rfl rfl) ?_
      refine Gx.val rfl rfl rfl (val_move rfl rfl) ?_
      refine Gx.val rfl rfl rfl (val_lss rfl rfl rfl) ?_
      refine Gx.done ?_
      refine Gx.thenN ?_
      refine Gx.dec rfl (fun h63 => ?_) (fun h63 => ?_)
      · refine Gx.skip ?_
        refine Gx.thenN ?_
        refine Gx.seq ?_
        refine Gx.block ?_
        refine Gx.seq ?_
        refine Gx.regionQ Try.mixed (by kernel_rfl) ?_
        refine Gq.val rfl rfl rfl (Val.cast (val_fieldAddr rfl Try.underlying27 rfl Try.ty22 rfl rfl) (v' := ptr b60 2) rfl) ?_
        refine Gq.val rfl rfl rfl (val_load rfl Try.ty22 rfl rfl (cell_rec (k := 0) rfl rfl)) ?_
        refine Gq.val rfl rfl rfl (val_move rfl rfl) ?_
        obtain ⟨x64, hx64⟩ := get_of_lt (xs := ((stS (ss0 money) (cs.take (k % (cs.length + 1)))).ps.map Pr.ow)) (k := i) (by omega)
        refine Gq.val rfl rfl rfl (val_ixa rfl Try.underlying22 Try.ty3 rfl rfl (j := i) (rfl) (reach_base huv28 hx64)) ?_
        refine Gq.val rfl rfl rfl (val_load rfl Try.ty3 rfl rfl (cell_base (i := 0) huv28 hx64 rfl)) ?_
        refine Gq.val rfl rfl rfl (val_geq rfl rfl rfl) ?_
        refine Gq.val rfl rfl rfl (val_move rfl rfl) ?_
        refine Gq.cases (t := 101) rfl (fun h65 => ?_) (fun h65 => ?_)
        · refine Gq.valg rfl rfl rfl rfl rfl (Val.cast (val_fieldAddr rfl Try.underlying27 rfl Try.ty22 rfl rfl) (v' := ptr b24 2) rfl) ?_
          refine Gq.valg rfl rfl rfl rfl rfl (val_load rfl Try.ty22 rfl rfl (cell_old hb42 hc45)) ?_
          refine Gq.valg rfl rfl rfl rfl rfl (val_move rfl rfl) ?_
          obtain ⟨x66, hx66⟩ := get_of_lt (xs := ((stS (ss0 money) cs).ps.map Pr.ow)) (k := i) (by omega)
          refine Gq.valg rfl rfl rfl rfl rfl (val_ixa rfl Try.underlying22 Try.ty3 rfl rfl (j := i) (rfl) (reach_base hs39 hx66)) ?_
          refine Gq.valg rfl rfl rfl rfl rfl (val_load rfl Try.ty3 rfl rfl (cell_base (i := 0) hs39 hx66 rfl)) ?_
          refine Gq.valg rfl rfl rfl rfl rfl (Val.cast (val_fieldAddr rfl Try.underlying27 rfl Try.ty22 rfl rfl) (v' := ptr b60 2) rfl) ?_
          refine Gq.valg rfl rfl rfl rfl rfl (val_load rfl Try.ty22 rfl rfl (cell_rec (k := 0) rfl rfl)) ?_
          refine Gq.valg rfl rfl rfl rfl rfl (val_move rfl rfl) ?_
          refine Gq.valg rfl rfl rfl rfl rfl (val_ixa rfl Try.underlying22 Try.ty3 rfl rfl (j := i) (rfl) (reach_base huv28 hx64)) ?_
          refine Gq.valg rfl rfl rfl rfl rfl (val_load rfl Try.ty3 rfl rfl (cell_base (i := 0) huv28 hx64 rfl)) ?_
          refine Gq.valg rfl rfl rfl rfl rfl (val_neq rfl rfl rfl) ?_
          refine Gq.val rfl rfl rfl (val_pickT rfl rfl rfl) ?_
          refine Gq.done ?_
          refine Gx.thenN ?_
          refine Gx.decF rfl (fun q => q (hle.own hx64 hx66 (by assumption))) ?_
          refine Gx.skip ?_
          refine Gx.blkN ?_
          refine Gx.thenN ?_
          refine Gx.region ?_
          refine Gx.val rfl rfl rfl (val_move rfl rfl) ?_
          refine Gx.val rfl rfl rfl (val_add rfl rfl rfl (r := ((i + 1 : Nat) : Int)) (w64 (by omega) (by omega))) ?_
          refine Gx.val rfl rfl rfl (val_assign rfl rfl) ?_
          refine Gx.done ?_
          refine Gx.thenN ?_
          exact Gx.round (i + 1) (by first | omega | (dsimp only; omega)) (by first | omega | (dsimp only; omega)) ((.cons rfl (.cons rfl (.cons rfl (.cons rfl .nil))))) rfl
        · refine Gq.skipg rfl rfl rfl rfl rfl rfl ?_
          refine Gq.skipg rfl rfl rfl rfl rfl rfl ?_
          refine Gq.skipg rfl rfl rfl rfl rfl rfl ?_
          refine Gq.skipg rfl rfl rfl rfl rfl rfl ?_
          refine Gq.skipg rfl rfl rfl rfl rfl rfl ?_
          refine Gq.skipg rfl rfl rfl rfl rfl rfl ?_
          refine Gq.skipg rfl rfl rfl rfl rfl rfl ?_
          refine Gq.skipg rfl rfl rfl rfl rfl rfl ?_
          refine Gq.skipg rfl rfl rfl rfl rfl rfl ?_
          refine Gq.skipg rfl rfl rfl rfl rfl rfl ?_
          refine Gq.skipg rfl rfl rfl rfl rfl rfl ?_
          refine Gq.val rfl rfl rfl (val_pickF rfl rfl rfl) ?_
          refine Gq.done ?_
          refine Gx.thenN ?_
          refine Gx.f rfl ?_
          refine Gx.skip ?_
          refine Gx.blkN ?_
          refine Gx.thenN ?_
          refine Gx.region ?_
          refine Gx.val rfl rfl rfl (val_move rfl rfl) ?_
          refine Gx.val rfl rfl rfl (val_add rfl rfl rfl (r := ((i + 1 : Nat) : Int)) (w64 (by omega) (by omega))) ?_
          refine Gx.val rfl rfl rfl (val_assign rfl rfl) ?_
          refine Gx.done ?_
          refine Gx.thenN ?_
          exact Gx.round (i + 1) (by first | omega | (dsimp only; omega)) (by first | omega | (dsimp only; omega)) ((.cons rfl (.cons rfl (.cons rfl (.cons rfl .nil))))) rfl
      · refine Gx.exit ?_
        refine Gx.thenE ?_
        refine Gx.thenE ?_
        refine Gx.blkE ?_
        refine Gx.thenN ?_
        refine Gx.seq ?_
        refine Gx.seq ?_
        refine Gx.region ?_
        refine Gx.val rfl rfl rfl (val_assign rfl rfl) ?_
        refine Gx.done ?_
        refine Gx.thenN ?_
        refine Gx.block ?_
        refine Gx.loop (ι := Nat) (fun ξ => (ξ ≤ money.length * money.length)) (fun ξ => [(7, ptr b24 0), (10, ptr b60 0), (12, .int .i64 ((money.length : Nat) : Int)), (14, .int .i64 ((ξ : Nat) : Int))]) (fun ξ => [Hp.rec_ b60 [.slice sa48 sn49 sc50, .slice sa51 sn52 sc53, .slice sa54 sn55 sc56, .slice sa57 sn58 sc59, .bool dm30]]) (fun ξ => money.length * money.length - ξ) 0 (by first | omega | (dsimp only; omega)) ((.cons rfl (.cons rfl (.cons rfl (.cons rfl .nil))))) rfl ?_
        rintro i hi
        refine Gx.know (m' := [(7, ptr b24 0), (10, ptr b60 0), (12, .int .i64 ((money.length : Nat) : Int)), (14, .int .i64 ((i : Nat) : Int))]) (.cons rfl (.cons rfl (.cons rfl (.cons rfl .nil)))) (Gx.norm (l' := [Hp.rec_ b60 [.slice sa48 sn49 sc50, .slice sa51 sn52 sc53, .slice sa54 sn55 sc56, .slice sa57 sn58 sc59, .bool dm30]]) rfl ?_)
        refine Gx.seq ?_
        refine Gx.seq ?_
        refine Gx.region ?_
        refine Gx.val rfl rfl rfl (val_move rfl rfl) ?_
        refine Gx.val rfl rfl rfl (val_move rfl rfl) ?_
        refine Gx.val rfl rfl rfl (val_move rfl rfl) ?_
        refine Gx.val rfl rfl rfl (val_mul rfl rfl rfl (r := ((money.length * money.length : Nat) : Int)) (w64 (by omega) (by omega))) ?_
        refine Gx.val rfl rfl rfl (val_lss rfl rfl rfl) ?_
        refine Gx.done ?_
        refine Gx.thenN ?_
        refine Gx.dec rfl (fun h67 => ?_) (fun h67 => ?_)
        · refine Gx.skip ?_
          refine Gx.thenN ?_
          refine Gx.seq ?_
          refine Gx.block ?_
          refine Gx.seq ?_
          obtain ⟨x, hx⟩ := get_of_lt (xs := vals31) (k := i) (by omega)
          obtain ⟨y, hy⟩ := get_of_lt (xs := vals6) (k := i) (by omega)
          have hrx := hrbv29 i x hx
          have hry := hr1 i y hy
          have hpre := hle.nts money.length i
          refine Gx.regionQ Try.mixed (by kernel_rfl) ?_
          refine Gq.val rfl rfl rfl (Val.cast (val_fieldAddr rfl Try.underlying27 rfl Try.ty25 rfl rfl) (v' := ptr b60 3) rfl) ?_
          refine Gq.val rfl rfl rfl (val_load rfl Try.ty25 rfl rfl (cell_rec (k := 0) rfl rfl)) ?_
          refine Gq.val rfl rfl rfl (val_move rfl rfl) ?_
          refine Gq.val rfl rfl rfl (val_ixa rfl Try.underlying25 Try.ty22 rfl rfl (j := i) (rfl) (reach_base hbv29 hx)) ?_
          refine Gq.val rfl rfl rfl (val_load rfl Try.ty22 rfl rfl (cell_base (i := 0) hbv29 hx rfl)) ?_
          refine Gq.val rfl rfl rfl (Val.cast (val_fieldAddr rfl Try.underlying27 rfl Try.ty25 rfl rfl) (v' := ptr b24 3) rfl) ?_
          refine Gq.val rfl rfl rfl (val_load rfl Try.ty25 rfl rfl (cell_old hb42 hc46)) ?_
          refine Gq.val rfl rfl rfl (val_move rfl rfl) ?_
          refine Gq.val rfl rfl rfl (val_ixa rfl Try.underlying25 Try.ty22 rfl rfl (j := i) (rfl) (reach_base hs40 hy)) ?_
          refine Gq.val rfl rfl rfl (val_load rfl Try.ty22 rfl rfl (cell_base (i := 0) hs40 hy rfl)) ?_
          refine Gq.val rfl rfl rfl (val_call (vs := [.slice x.a x.n x.c, .slice y.a y.n y.c]) rfl Try.fn8 rfl (fun w H => begins_yes (hrx.below H.below) (hry.below H.below) hpre)) ?_
          refine Gq.val rfl rfl rfl (Val.cast (val_not rfl rfl) (v' := .bool false) rfl) ?_
          refine Gq.val rfl rfl rfl (val_move rfl rfl) ?_
          refine Gq.valg rfl rfl rfl rfl rfl (Val.cast (val_fieldAddr rfl Try.underlying27 rfl Try.ty4 rfl rfl) (v' := ptr b60 4) rfl) ?_
          refine Gq.valg rfl rfl rfl rfl rfl (val_load rfl Try.ty4 rfl rfl (cell_rec (k := 0) rfl rfl)) ?_
          refine Gq.valg rfl rfl rfl rfl rfl (val_move rfl rfl) ?_
          refine Gq.slot (t := 136) (v := .bool true) (look_boolT rfl (h61)) ?_
          refine Gq.valg rfl rfl rfl rfl rfl (Val.cast (val_fieldAddr rfl Try.underlying27 rfl Try.ty25 rfl rfl) (v' := ptr b60 3) rfl) ?_
          refine Gq.valg rfl rfl rfl rfl rfl (val_load rfl Try.ty25 rfl rfl (cell_rec (k := 0) rfl rfl)) ?_
          refine Gq.valg rfl rfl rfl rfl rfl (val_move rfl rfl) ?_
          refine Gq.valg rfl rfl rfl rfl rfl (val_ixa rfl Try.underlying25 Try.ty22 rfl rfl (j := i) (rfl) (reach_base hbv29 hx)) ?_
          refine Gq.valg rfl rfl rfl rfl rfl (val_load rfl Try.ty22 rfl rfl (cell_base (i := 0) hbv29 hx rfl)) ?_
          refine Gq.valg rfl rfl rfl rfl rfl (val_len rfl Try.underlying22 rfl (len_base hrx)) ?_
          refine Gq.valg rfl rfl rfl rfl rfl (Val.cast (val_fieldAddr rfl Try.underlying27 rfl Try.ty25 rfl rfl) (v' := ptr b24 3) rfl) ?_
          refine Gq.valg rfl rfl rfl rfl rfl (val_load rfl Try.ty25 rfl rfl (cell_old hb42 hc46)) ?_
          refine Gq.valg rfl rfl rfl rfl rfl (val_move rfl rfl) ?_
          refine Gq.valg rfl rfl rfl rfl rfl (val_ixa rfl Try.underlying25 Try.ty22 rfl rfl (j := i) (rfl) (reach_base hs40 hy)) ?_
          refine Gq.valg rfl rfl rfl rfl rfl (val_load rfl Try.ty22 rfl rfl (cell_base (i := 0) hs40 hy rfl)) ?_
          refine Gq.valg rfl rfl rfl rfl rfl (val_len rfl Try.underlying22 rfl (len_base hry)) ?_
          refine Gq.valg rfl rfl rfl rfl rfl (val_neq rfl rfl rfl) ?_
          refine Gq.valg rfl rfl rfl rfl rfl (val_pickT rfl rfl rfl) ?_
          refine Gq.val rfl rfl rfl (val_pickF rfl rfl rfl) ?_
          refine Gq.done ?_
          refine Gx.thenN ?_
          refine Gx.decF rfl (fun q => q (by rw [hle.ntsD (by omega) (hddm30.1 (by assumption)) (by omega)])) ?_
          refine Gx.skip ?_
          refine Gx.blkN ?_
          refine Gx.thenN ?_
          refine Gx.region ?_
          refine Gx.val rfl rfl rfl (val_move rfl rfl) ?_
          refine Gx.val rfl rfl rfl (val_add rfl rfl rfl (r := ((i + 1 : Nat) : Int)) (w64 (by omega) (by omega))) ?_
          refine Gx.val rfl rfl rfl (val_assign rfl rfl) ?_
          refine Gx.done ?_
          refine Gx.thenN ?_
          exact Gx.round (i + 1) (by first | omega | (dsimp only; omega)) (by first | omega | (dsimp only; omega)) ((.cons rfl (.cons rfl (.cons rfl (.cons rfl .nil))))) rfl
        · refine Gx.exit ?_
          refine Gx.thenE ?_
          refine Gx.thenE ?_
          refine Gx.blkE ?_
          refine Gx.thenN ?_
          refine Gx.seq ?_
          refine Gx.region ?_
          refine Gx.val rfl rfl rfl (val_assign rfl rfl) ?_
          refine Gx.done ?_
          refine Gx.thenN ?_
          refine Gx.ret ?_
          refine Gx.ret1B hW34 Try.results5 rfl ?_
          rfl
  · refine Gx.skipg rfl rfl rfl rfl rfl rfl ?_
    refine Gx.skipg rfl rfl rfl rfl rfl rfl ?_
    refine Gx.skipg rfl rfl rfl rfl rfl rfl ?_
    refine Gx.valg rfl rfl rfl rfl rfl (val_pickF rfl rfl rfl) ?_
    refine Gx.val rfl rfl rfl (val_pickF rfl rfl rfl) ?_
    refine Gx.done ?_
    refine Gx.thenN ?_
    refine Gx.f rfl ?_
    refine Gx.skip ?_
    refine Gx.thenN ?_
    refine Gx.seq ?_
    refine Gx.seq ?_
    refine Gx.region ?_
    refine Gx.val rfl rfl rfl (val_assign rfl rfl) ?_
    refine Gx.done ?_
    refine Gx.thenN ?_
    refine Gx.block ?_
    refine Gx.loop (ι := Nat) (fun ξ => (ξ ≤ money.length)) (fun ξ => [(7, ptr b24 0), (10, ptr b60 0), (12, .int .i64 ((money.length : Nat) : Int)), (13, .int .i64 ((ξ : Nat) : Int))]) (fun ξ => [Hp.rec_ b60 [.slice sa48 sn49 sc50, .slice sa51 sn52 sc53, .slice sa54 sn55 sc56, .slice sa57 sn58 sc59, .bool dm30]]) (fun ξ => money.length - ξ) 0 (by first | omega | (dsimp only; omega)) ((.cons rfl (.cons rfl (.cons rfl (.cons rfl .nil))))) rfl ?_
    rintro i hi
    refine Gx.know (m' := [(7, ptr b24 0), (10, ptr b60 0), (12, .int .i64 ((money.length : Nat) : Int)), (13, .int .i64 ((i : Nat) : Int))]) (.cons rfl (.cons rfl (.cons rfl (.cons rfl .nil)))) (Gx.norm (l' := [Hp.rec_ b60 [.slice sa48 sn49 sc50, .slice sa51 sn52 sc53, .slice sa54 sn55 sc56, .slice sa57 sn58 sc59, .bool dm30]]) rfl ?_)
    refine Gx.seq ?_
    refine Gx.seq ?_
    refine Gx.region ?_
    refine Gx.val rfl rfl rfl (val_move rfl rfl) ?_
    refine Gx.val rfl rfl rfl (val_move rfl rfl) ?_
    refine Gx.val rfl rfl rfl (val_lss rfl rfl rfl) ?_
    refine Gx.done ?_
    refine Gx.thenN ?_
    refine Gx.dec rfl (fun h68 => ?_) (fun h68 => ?_)
    · refine Gx.skip ?_
      refine Gx.thenN ?_
      refine Gx.seq ?_
      refine Gx.block ?_
      refine Gx.seq ?_
      refine Gx.regionQ Try.mixed (by kernel_rfl) ?_
      refine Gq.val rfl rfl rfl (Val.cast (val_fieldAddr rfl Try.underlying27 rfl Try.ty22 rfl rfl) (v' := ptr b60 2) rfl) ?_
      refine Gq.val rfl rfl rfl (val_load rfl Try.ty22 rfl rfl (cell_rec (k := 0) rfl rfl)) ?_
      refine Gq.val rfl rfl rfl (val_move rfl rfl) ?_
      obtain ⟨x69, hx69⟩ := get_of_lt (xs := ((stS (ss0 money) (cs.take (k % (cs.length + 1)))).ps.map Pr.ow)) (k := i) (by omega)
      refine Gq.val rfl rfl rfl (val_ixa rfl Try.underlying22 Try.ty3 rfl rfl (j := i) (rfl) (reach_base huv28 hx69)) ?_
      refine Gq.val rfl rfl rfl (val_load rfl Try.ty3 rfl rfl (cell_base (i := 0) huv28 hx69 rfl)) ?_
      refine Gq.val rfl rfl rfl (val_geq rfl rfl rfl) ?_
      refine Gq.val rfl rfl rfl (val_move rfl rfl) ?_
      refine Gq.cases (t := 101) rfl (fun h70 => ?_) (fun h70 => ?_)
      · refine Gq.valg rfl rfl rfl rfl rfl (Val.cast (val_fieldAddr rfl Try.underlying27 rfl Try.ty22 rfl rfl) (v' := ptr b24 2) rfl) ?_
        refine Gq.valg rfl rfl rfl rfl rfl (val_load rfl Try.ty22 rfl rfl (cell_old hb42 hc45)) ?_
        refine Gq.valg rfl rfl rfl rfl rfl (val_move rfl rfl) ?_
        obtain ⟨x71, hx71⟩ := get_of_lt (xs := ((stS (ss0 money) cs).ps.map Pr.ow)) (k := i) (by omega)
        refine Gq.valg rfl rfl rfl rfl rfl (val_ixa rfl Try.underlying22 Try.ty3 rfl rfl (j := i) (rfl) (reach_base hs39 hx71)) ?_
        refine Gq.valg rfl rfl rfl rfl rfl (val_load rfl Try.ty3 rfl rfl (cell_base (i := 0) hs39 hx71 rfl)) ?_
        refine Gq.valg rfl rfl rfl rfl rfl (Val.cast (val_fieldAddr rfl Try.underlying27 rfl Try.ty22 rfl rfl) (v' := ptr b60 2) rfl) ?_
        refine Gq.valg rfl rfl rfl rfl rfl (val_load rfl Try.ty22 rfl rfl (cell_rec (k := 0) rfl rfl)) ?_
        refine Gq.valg rfl rfl rfl rfl rfl (val_move rfl rfl) ?_
        refine Gq.valg rfl rfl rfl rfl rfl (val_ixa rfl Try.underlying22 Try.ty3 rfl rfl (j := i) (rfl) (reach_base huv28 hx69)) ?_
        refine Gq.valg rfl rfl rfl rfl rfl (val_load rfl Try.ty3 rfl rfl (cell_base (i := 0) huv28 hx69 rfl)) ?_
        refine Gq.valg rfl rfl rfl rfl rfl (val_neq rfl rfl rfl) ?_
        refine Gq.val rfl rfl rfl (val_pickT rfl rfl rfl) ?_
        refine Gq.done ?_
        refine Gx.thenN ?_
        refine Gx.decF rfl (fun q => q (hle.own hx69 hx71 (by assumption))) ?_
        refine Gx.skip ?_
        refine Gx.blkN ?_
        refine Gx.thenN ?_
        refine Gx.region ?_
        refine Gx.val rfl rfl rfl (val_move rfl rfl) ?_
        refine Gx.val rfl rfl rfl (val_add rfl rfl rfl (r := ((i + 1 : Nat) : Int)) (w64 (by omega) (by omega))) ?_
        refine Gx.val rfl rfl rfl (val_assign rfl rfl) ?_
        refine Gx.done ?_
        refine Gx.thenN ?_
        exact Gx.round (i + 1) (by first | omega | (dsimp only; omega)) (by first | omega | (dsimp only; omega)) ((.cons rfl (.cons rfl (.cons rfl (.cons rfl .nil))))) rfl
      · refine Gq.skipg rfl rfl rfl rfl rfl rfl ?_
        refine Gq.skipg rfl rfl rfl rfl rfl rfl ?_
        refine Gq.skipg rfl rfl rfl rfl rfl rfl ?_
        refine Gq.skipg rfl rfl rfl rfl rfl rfl ?_
        refine Gq.skipg rfl rfl rfl rfl rfl rfl ?_
        refine Gq.skipg rfl rfl rfl rfl rfl rfl ?_
        refine Gq.skipg rfl rfl rfl rfl rfl rfl ?_
        refine Gq.skipg rfl rfl rfl rfl rfl rfl ?_
        refine Gq.skipg rfl rfl rfl rfl rfl rfl ?_
        refine Gq.skipg rfl rfl rfl rfl rfl rfl ?_
        refine Gq.skipg rfl rfl rfl rfl rfl rfl ?_
        refine Gq.val rfl rfl rfl (val_pickF rfl rfl rfl) ?_
        refine Gq.done ?_
        refine Gx.thenN ?_
        refine Gx.f rfl ?_
        refine Gx.skip ?_
        refine Gx.blkN ?_
        refine Gx.thenN ?_
        refine Gx.region ?_
        refine Gx.val rfl rfl rfl (val_move rfl rfl) ?_
        refine Gx.val rfl rfl rfl (val_add rfl rfl rfl (r := ((i + 1 : Nat) : Int)) (w64 (by omega) (by omega))) ?_
        refine Gx.val rfl rfl rfl (val_assign rfl rfl) ?_
        refine Gx.done ?_
        refine Gx.thenN ?_
        exact Gx.round (i + 1) (by first | omega | (dsimp only; omega)) (by first | omega | (dsimp only; omega)) ((.cons rfl (.cons rfl (.cons rfl (.cons rfl .nil))))) rfl
    · refine Gx.exit ?_
      refine Gx.thenE ?_
      refine Gx.thenE ?_
      refine Gx.blkE ?_
      refine Gx.thenN ?_
      refine Gx.seq ?_
      refine Gx.seq ?_
      refine Gx.region ?_
      refine Gx.val rfl rfl rfl (val_assign rfl rfl) ?_
      refine Gx.done ?_
      refine Gx.thenN ?_
      refine Gx.block ?_
      refine Gx.loop (ι := Nat) (fun ξ => (ξ ≤ money.length * money.length)) (fun ξ => [(7, ptr b24 0), (10, ptr b60 0), (12, .int .i64 ((money.length : Nat) : Int)), (14, .int .i64 ((ξ : Nat) : Int))]) (fun ξ => [Hp.rec_ b60 [.slice sa48 sn49 sc50, .slice sa51 sn52 sc53, .slice sa54 sn55 sc56, .slice sa57 sn58 sc59, .bool dm30]]) (fun ξ => money.length * money.length - ξ) 0 (by first | omega | (dsimp only; omega)) ((.cons rfl (.cons rfl (.cons rfl (.cons rfl .nil))))) rfl ?_
      rintro i hi
      refine Gx.know (m' := [(7, ptr b24 0), (10, ptr b60 0), (12, .int .i64 ((money.length : Nat) : Int)), (14, .int .i64 ((i : Nat) : Int))]) (.cons rfl (.cons rfl (.cons rfl (.cons rfl .nil)))) (Gx.norm (l' := [Hp.rec_ b60 [.slice sa48 sn49 sc50, .slice sa51 sn52 sc53, .slice sa54 sn55 sc56, .slice sa57 sn58 sc59, .bool dm30]]) rfl ?_)
      refine Gx.seq ?_
      refine Gx.seq ?_
      refine Gx.region ?_
      refine Gx.val rfl rfl rfl (val_move rfl rfl) ?_
      refine Gx.val rfl rfl rfl (val_move rfl rfl) ?_
      refine Gx.val rfl rfl rfl (val_move rfl rfl) ?_
      refine Gx.val rfl rfl rfl (val_mul rfl rfl rfl (r := ((money.length * money.length : Nat) : Int)) (w64 (by omega) (by omega))) ?_
      refine Gx.val rfl rfl rfl (val_lss rfl rfl rfl) ?_
      refine Gx.done ?_
      refine Gx.thenN ?_
      refine Gx.dec rfl (fun h72 => ?_) (fun h72 => ?_)
      · refine Gx.skip ?_
        refine Gx.thenN ?_
        refine Gx.seq ?_
        refine Gx.block ?_
        refine Gx.seq ?_
        obtain ⟨x, hx⟩ := get_of_lt (xs := vals31) (k := i) (by omega)
        obtain ⟨y, hy⟩ := get_of_lt (xs := vals6) (k := i) (by omega)
        have hrx := hrbv29 i x hx
        have hry := hr1 i y hy
        have hpre := hle.nts money.length i
        refine Gx.regionQ Try.mixed (by kernel_rfl) ?_
        refine Gq.val rfl rfl rfl (Val.cast (val_fieldAddr rfl Try.underlying27 rfl Try.ty25 rfl rfl) (v' := ptr b60 3) rfl) ?_
        refine Gq.val rfl rfl rfl (val_load rfl Try.ty25 rfl rfl (cell_rec (k := 0) rfl rfl)) ?_
        refine Gq.val rfl rfl rfl (val_move rfl rfl) ?_
        refine Gq.val rfl rfl rfl (val_ixa rfl Try.underlying25 Try.ty22 rfl rfl (j := i) (rfl) (reach_base hbv29 hx)) ?_
        refine Gq.val rfl rfl rfl (val_load rfl Try.ty22 rfl rfl (cell_base (i := 0) hbv29 hx rfl)) ?_
        refine Gq.val rfl rfl rfl (Val.cast (val_fieldAddr rfl Try.underlying27 rfl Try.ty25 rfl rfl) (v' := ptr b24 3) rfl) ?_
        refine Gq.val rfl rfl rfl (val_load rfl Try.ty25 rfl rfl (cell_old hb42 hc46)) ?_
        refine Gq.val rfl rfl rfl (val_move rfl rfl) ?_
        refine Gq.val rfl rfl rfl (val_ixa rfl Try.underlying25 Try.ty22 rfl rfl (j := i) (rfl) (reach_base hs40 hy)) ?_
        refine Gq.val rfl rfl rfl (val_load rfl Try.ty22 rfl rfl (cell_base (i := 0) hs40 hy rfl)) ?_
        refine Gq.val rfl rfl rfl (val_call (vs := [.slice x.a x.n x.c, .slice y.a y.n y.c]) rfl Try.fn8 rfl (fun w H => begins_yes (hrx.below H.below) (hry.below H.below) hpre)) ?_
        refine Gq.val rfl rfl rfl (Val.cast (val_not rfl rfl) (v' := .bool false) rfl) ?_
        refine Gq.val rfl rfl rfl (val_move rfl rfl) ?_
        refine Gq.valg rfl rfl rfl rfl rfl (Val.cast (val_fieldAddr rfl Try.underlying27 rfl Try.ty4 rfl rfl) (v' := ptr b60 4) rfl) ?_
        refine Gq.valg rfl rfl rfl rfl rfl (val_load rfl Try.ty4 rfl rfl (cell_rec (k := 0) rfl rfl)) ?_
        refine Gq.valg rfl rfl rfl rfl rfl (val_move rfl rfl) ?_
        refine Gq.slot (t := 136) (v := .bool false) (look_boolF rfl (h61)) ?_
        refine Gq.skipg rfl rfl rfl rfl rfl rfl ?_
        refine Gq.skipg rfl rfl rfl rfl rfl rfl ?_
        refine Gq.skipg rfl rfl rfl rfl rfl rfl ?_
        refine Gq.skipg rfl rfl rfl rfl rfl rfl ?_
        refine Gq.skipg rfl rfl rfl rfl rfl rfl ?_
        refine Gq.skipg rfl rfl rfl rfl rfl rfl ?_
        refine Gq.skipg rfl rfl rfl rfl rfl rfl ?_
        refine Gq.skipg rfl rfl rfl rfl rfl rfl ?_
        refine Gq.skipg rfl rfl rfl rfl rfl rfl ?_
        refine Gq.skipg rfl rfl rfl rfl rfl rfl ?_
        refine Gq.skipg rfl rfl rfl rfl rfl rfl ?_
        refine Gq.skipg rfl rfl rfl rfl rfl rfl ?_
        refine Gq.skipg rfl rfl rfl rfl rfl rfl ?_
        refine Gq.valg rfl rfl rfl rfl rfl (val_pickF rfl rfl rfl) ?_
        refine Gq.val rfl rfl rfl (val_pickF rfl rfl rfl) ?_
        refine Gq.done ?_
        refine Gx.thenN ?_
        refine Gx.f rfl ?_
        refine Gx.skip ?_
        refine Gx.blkN ?_
        refine Gx.thenN ?_
        refine Gx.region ?_
        refine Gx.val rfl rfl rfl (val_move rfl rfl) ?_
        refine Gx.val rfl rfl rfl (val_add rfl rfl rfl (r := ((i + 1 : Nat) : Int)) (w64 (by omega) (by omega))) ?_
        refine Gx.val rfl rfl rfl (val_assign rfl rfl) ?_
        refine Gx.done ?_
        refine Gx.thenN ?_
        exact Gx.round (i + 1) (by first | omega | (dsimp only; omega)) (by first | omega | (dsimp only; omega)) ((.cons rfl (.cons rfl (.cons rfl (.cons rfl .nil))))) rfl
      · refine Gx.exit ?_
        refine Gx.thenE ?_
        refine Gx.thenE ?_
        refine Gx.blkE ?_
        refine Gx.thenN ?_
        refine Gx.seq ?_
        refine Gx.region ?_
        refine Gx.val rfl rfl rfl (val_assign rfl rfl) ?_
        refine Gx.done ?_
        refine Gx.thenN ?_
        refine Gx.ret ?_
        refine Gx.ret1B hW34 Try.results5 rfl ?_
        rfl

theorem front_any {W : World} {mv sv : Value} {money : List Int} {cs : List Mv} {z : Int} (h0 : 0 ≤ z) (h255 : z ≤ 255) (hm : SlS FI 1 W mv money) (hs : SlS FM 4 W sv cs) :
    Calls Try.prog 5 #[mv, sv, .int .u8 z] W fun e w' => e = .returned (.bool true) ∧ Below W.heap.size W w' := by
  obtain ⟨k, rfl⟩ : ∃ k : Nat, z = (k : Int) := ⟨z.toNat, by omega⟩
  by_cases h : money.length = 0 ∨ 6 < money.length ∨ 120 < cs.length
  · exact front_no1 hm hs (by omega) h
  · by_cases h2 : 0 ≤ firstB money
    · exact front_no2 hm hs (by omega) h h2
    · exact front_yes hm hs (by omega) (by omega) (by omega) (by omega) h2
end Go.Proofs.Ytanipkddfngnnaa
