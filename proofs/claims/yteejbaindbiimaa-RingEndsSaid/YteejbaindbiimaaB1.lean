/- What was done stays; how many are sent. The walks. No condition. -/
import Derived.Test.YteejbaindbiimaaM3
namespace Go.Proofs.Yteejbaindbiimaa
open Go.RowKit
set_option linter.unusedVariables false
set_option linter.unusedSimpArgs false
set_option maxRecDepth 100000

theorem ints_any {W : World} {va vb : Value} {xs ys : List Nat} (ha : SlS FN 1 W va xs) (hb : SlS FN 1 W vb ys) : Calls Try.prog 16 #[va, vb] W fun e w' => e = .returned (.bool (decide (xs = ys))) ∧ Below W.heap.size W w' := by
  have m1 := sls_bd ha
  have m2 := sls_bd hb
  refine calls_pure (Gx.enter (l := []) Try.func16 rfl Try.ntmps16 rfl (Sat.start W) ?_)
  refine Gx.know (m' := [(0, va), (1, vb)]) (.cons rfl (.cons rfl .nil)) ?_
  refine Gx.seq ?_
  refine Gx.region ?_
  refine Gx.val rfl rfl rfl (val_assign rfl rfl) ?_
  refine Gx.done ?_
  refine Gx.thenN ?_
  refine Gx.seq ?_
  refine Gx.seq ?_
  refine Gx.region ?_
  refine Gx.val rfl rfl rfl (val_move rfl rfl) ?_
  refine Gx.val rfl rfl rfl (val_len rfl Try.underlying22 rfl (len_base ha)) ?_
  refine Gx.val rfl rfl rfl (val_move rfl rfl) ?_
  refine Gx.val rfl rfl rfl (val_len rfl Try.underlying22 rfl (len_base hb)) ?_
  refine Gx.val rfl rfl rfl (val_neq rfl rfl rfl) ?_
  refine Gx.done ?_
  refine Gx.thenN ?_
  refine Gx.dec rfl (fun h1 => ?_) (fun h1 => ?_)
  · refine Gx.seq ?_
    refine Gx.region ?_
    refine Gx.val rfl rfl rfl (val_assign rfl rfl) ?_
    refine Gx.done ?_
    refine Gx.thenN ?_
    refine Gx.ret ?_
    refine Gx.thenR ?_
    refine Gx.ret1 Try.results16 rfl ?_
    exact (congrArg Value.bool (decide_eq_false fun h => by subst h; omega)).symm
  · refine Gx.skip ?_
    refine Gx.thenN ?_
    refine Gx.seq ?_
    refine Gx.seq ?_
    refine Gx.region ?_
    refine Gx.val rfl rfl rfl (val_assign rfl rfl) ?_
    refine Gx.done ?_
    refine Gx.thenN ?_
    refine Gx.block ?_
    refine Gx.loop (ι := Nat) (fun ξ => (ξ ≤ xs.length) ∧ (∀ q, q < ξ → xs[q]? = ys[q]?)) (fun ξ => [(0, va), (1, vb), (5, .int .i64 ((ξ : Nat) : Int))]) (fun ξ => []) (fun ξ => xs.length - ξ) 0 ⟨by first | omega | (dsimp only; omega), by omega⟩ ((.cons rfl (.cons rfl (.cons rfl .nil)))) rfl ?_
    rintro k ⟨hk, he⟩
    refine Gx.know (m' := [(0, va), (1, vb), (5, .int .i64 ((k : Nat) : Int))]) (.cons rfl (.cons rfl (.cons rfl .nil))) (Gx.norm (l' := []) rfl ?_)
    refine Gx.seq ?_
    refine Gx.seq ?_
    refine Gx.region ?_
    refine Gx.val rfl rfl rfl (val_move rfl rfl) ?_
    refine Gx.val rfl rfl rfl (val_move rfl rfl) ?_
    refine Gx.val rfl rfl rfl (val_len rfl Try.underlying22 rfl (len_base ha)) ?_
    refine Gx.val rfl rfl rfl (val_lss rfl rfl rfl) ?_
    refine Gx.done ?_
    refine Gx.thenN ?_
    refine Gx.dec rfl (fun h2 => ?_) (fun h2 => ?_)
    · refine Gx.skip ?_
      refine Gx.thenN ?_
      refine Gx.seq ?_
      refine Gx.block ?_
      refine Gx.seq ?_
      refine Gx.regionQ Try.mixed (by kernel_rfl) ?_
      refine Gq.val rfl rfl rfl (val_move rfl rfl) ?_
      refine Gq.val rfl rfl rfl (val_move rfl rfl) ?_
      obtain ⟨x3, hx3⟩ := get_of_lt (xs := xs) (k := k) (by omega)
      refine Gq.val rfl rfl rfl (val_ixa rfl Try.underlying22 Try.ty3 rfl rfl (j := k) (rfl) (reach_base ha hx3)) ?_
      refine Gq.val rfl rfl rfl (val_load rfl Try.ty3 rfl rfl (cell_base (i := 0) ha hx3 rfl)) ?_
      refine Gq.val rfl rfl rfl (val_move rfl rfl) ?_
      refine Gq.val rfl rfl rfl (val_move rfl rfl) ?_
      obtain ⟨x4, hx4⟩ := get_of_lt (xs := ys) (k := k) (by omega)
      refine Gq.val rfl rfl rfl (val_ixa rfl Try.underlying22 Try.ty3 rfl rfl (j := k) (rfl) (reach_base hb hx4)) ?_
      refine Gq.val rfl rfl rfl (val_load rfl Try.ty3 rfl rfl (cell_base (i := 0) hb hx4 rfl)) ?_
      refine Gq.val rfl rfl rfl (val_neq rfl rfl rfl) ?_
      refine Gq.done ?_
      refine Gx.thenN ?_
      refine Gx.dec rfl (fun h5 => ?_) (fun h5 => ?_)
      · refine Gx.seq ?_
        refine Gx.region ?_
        refine Gx.val rfl rfl rfl (val_assign rfl rfl) ?_
        refine Gx.done ?_
        refine Gx.thenN ?_
        refine Gx.ret ?_
        refine Gx.blkR ?_
        refine Gx.thenR ?_
        refine Gx.thenR ?_
        refine Gx.blkR ?_
        refine Gx.thenR ?_
        refine Gx.ret1 Try.results16 rfl ?_
        exact (congrArg Value.bool (decide_eq_false fun h => by subst h; have q := hx3.symm.trans hx4; cases q; omega)).symm
      · refine Gx.skip ?_
        refine Gx.blkN ?_
        refine Gx.thenN ?_
        refine Gx.region ?_
        refine Gx.val rfl rfl rfl (val_move rfl rfl) ?_
        refine Gx.val rfl rfl rfl (val_add rfl rfl rfl (r := ((k + 1 : Nat) : Int)) (w64 (by omega) (by omega))) ?_
        refine Gx.val rfl rfl rfl (val_assign rfl rfl) ?_
        refine Gx.done ?_
        refine Gx.thenN ?_
        exact Gx.round (k + 1) ⟨by first | omega | (dsimp only; omega), fun q hq => by rcases Nat.lt_or_eq_of_le (Nat.le_of_lt_succ hq) with h | rfl; (exact he q h); (rw [hx3, hx4]; exact congrArg some (by omega))⟩ (by first | omega | (dsimp only; omega)) ((.cons rfl (.cons rfl (.cons rfl .nil)))) rfl
    · refine Gx.exit ?_
      refine Gx.thenE ?_
      refine Gx.thenE ?_
      refine Gx.blkE ?_
      refine Gx.thenN ?_
      refine Gx.seq ?_
      refine Gx.region ?_
      refine Gx.val rfl rfl rfl (val_assign rfl rfl) ?_
      refine Gx.done ?_
      refine Gx.thenN ?_
      refine Gx.ret ?_
      refine Gx.ret1 Try.results16 rfl ?_
      exact (congrArg Value.bool (decide_eq_true (List.ext_getElem? fun q => by rcases Nat.lt_or_ge q k with h | h; (exact he q h); (rw [List.getElem?_eq_none (by omega), List.getElem?_eq_none (by omega)])))).symm

def begB (xs ys : List Nat) : Bool := decide (xs.length ≤ ys.length ∧ xs = ys.take xs.length)
theorem begB_yes {xs ys : List Nat} (h : xs <+: ys) : begB xs ys = true := by
  obtain ⟨t, rfl⟩ := h
  exact decide_eq_true ⟨by simp, (List.take_left ..).symm⟩
theorem begins_any {W : World} {va vb : Value} {xs ys : List Nat} (ha : SlS FN 1 W va xs) (hb : SlS FN 1 W vb ys) : Calls Try.prog 11 #[va, vb] W fun e w' => e = .returned (.bool (begB xs ys)) ∧ Below W.heap.size W w' := by
  have m1 := sls_bd ha
  have m2 := sls_bd hb
  refine calls_pure (Gx.enter (l := []) Try.func11 rfl Try.ntmps11 rfl (Sat.start W) ?_)
  refine Gx.know (m' := [(0, va), (1, vb)]) (.cons rfl (.cons rfl .nil)) ?_
  refine Gx.seq ?_
  refine Gx.region ?_
  refine Gx.val rfl rfl rfl (val_assign rfl rfl) ?_
  refine Gx.done ?_
  refine Gx.thenN ?_
  refine Gx.seq ?_
  refine Gx.region ?_
  refine Gx.val rfl rfl rfl (val_move rfl rfl) ?_
  refine Gx.val rfl rfl rfl (val_len rfl Try.underlying22 rfl (len_base ha)) ?_
  refine Gx.val rfl rfl rfl (val_move rfl rfl) ?_
  refine Gx.val rfl rfl rfl (val_len rfl Try.underlying22 rfl (len_base hb)) ?_
  refine Gx.val rfl rfl rfl (val_leq rfl rfl rfl) ?_
  refine Gx.val rfl rfl rfl (val_move rfl rfl) ?_
  refine Gx.cases (t := 10) rfl (fun h1 => ?_) (fun h1 => ?_)
  · refine Gx.valg rfl rfl rfl rfl rfl (val_move rfl rfl) ?_
    refine Gx.valg rfl rfl rfl rfl rfl (val_move rfl rfl) ?_
    refine Gx.valg rfl rfl rfl rfl rfl (val_move rfl rfl) ?_
    refine Gx.valg rfl rfl rfl rfl rfl (val_len rfl Try.underlying22 rfl (len_base ha)) ?_
    have hcut2 : SlS FN 1 W (sCut 1 0 xs.length vb) (ys.take xs.length) := (hb).cut (lo := 0) (hi := xs.length) (by omega) (by omega)
    refine Gx.valg rfl rfl rfl rfl rfl (val_cutTo (up := xs.length) rfl Try.underlying22 Try.ty3 rfl hb rfl (rfl) (by omega)) ?_
    refine Gx.valg rfl rfl rfl rfl rfl (val_call (vs := [va, sCut 1 0 xs.length vb]) rfl Try.fn16 rfl (fun w H => ints_any (ha.below H.below) (hcut2.below H.below))) ?_
    refine Gx.val rfl rfl rfl (val_pickT rfl rfl rfl) ?_
    refine Gx.val rfl rfl rfl (val_assign rfl rfl) ?_
    refine Gx.done ?_
    refine Gx.thenN ?_
    refine Gx.ret ?_
    refine Gx.ret1 Try.results11 rfl ?_
    first | exact congrArg Value.bool (decide_eq_true ⟨by omega, by assumption⟩).symm | exact congrArg Value.bool (decide_eq_decide.2 ⟨fun h => ⟨by omega, h⟩, fun h => h.2⟩)
  · refine Gx.skipg rfl rfl rfl rfl rfl rfl ?_
    refine Gx.skipg rfl rfl rfl rfl rfl rfl ?_
    refine Gx.skipg rfl rfl rfl rfl rfl rfl ?_
    refine Gx.skipg rfl rfl rfl rfl rfl rfl ?_
    refine Gx.skipg rfl rfl rfl rfl rfl rfl ?_
    refine Gx.skipg rfl rfl rfl rfl rfl rfl ?_
    refine Gx.val rfl rfl rfl (val_pickF rfl rfl rfl) ?_
    refine Gx.val rfl rfl rfl (val_assign rfl rfl) ?_
    refine Gx.done ?_
    refine Gx.thenN ?_
    refine Gx.ret ?_
    refine Gx.ret1 Try.results11 rfl ?_
    first | exact congrArg Value.bool (decide_eq_false fun h => by have := h.1; omega).symm | exact congrArg Value.bool (decide_eq_false fun h => by exact absurd h.2 (by assumption)).symm

theorem codes_any {W : World} {va vb : Value} {xs ys : List Int} (ha : SlS FZ 1 W va xs) (hb : SlS FZ 1 W vb ys) : Calls Try.prog 10 #[va, vb] W fun e w' => e = .returned (.bool (decide (xs = ys))) ∧ Below W.heap.size W w' := by
  have m1 := sls_bd ha
  have m2 := sls_bd hb
  refine calls_pure (Gx.enter (l := []) Try.func10 rfl Try.ntmps10 rfl (Sat.start W) ?_)
  refine Gx.know (m' := [(0, va), (1, vb)]) (.cons rfl (.cons rfl .nil)) ?_
  refine Gx.seq ?_
  refine Gx.region ?_
  refine Gx.val rfl rfl rfl (val_assign rfl rfl) ?_
  refine Gx.done ?_
  refine Gx.thenN ?_
  refine Gx.seq ?_
  refine Gx.seq ?_
  refine Gx.region ?_
  refine Gx.val rfl rfl rfl (val_move rfl rfl) ?_
  refine Gx.val rfl rfl rfl (val_len rfl Try.underlying24 rfl (len_base ha)) ?_
  refine Gx.val rfl rfl rfl (val_move rfl rfl) ?_
  refine Gx.val rfl rfl rfl (val_len rfl Try.underlying24 rfl (len_base hb)) ?_
  refine Gx.val rfl rfl rfl (val_neq rfl rfl rfl) ?_
  refine Gx.done ?_
  refine Gx.thenN ?_
  refine Gx.dec rfl (fun h1 => ?_) (fun h1 => ?_)
  · refine Gx.seq ?_
    refine Gx.region ?_
    refine Gx.val rfl rfl rfl (val_assign rfl rfl) ?_
    refine Gx.done ?_
    refine Gx.thenN ?_
    refine Gx.ret ?_
    refine Gx.thenR ?_
    refine Gx.ret1 Try.results10 rfl ?_
    exact (congrArg Value.bool (decide_eq_false fun h => by subst h; omega)).symm
  · refine Gx.skip ?_
    refine Gx.thenN ?_
    refine Gx.seq ?_
    refine Gx.seq ?_
    refine Gx.region ?_
    refine Gx.val rfl rfl rfl (val_assign rfl rfl) ?_
    refine Gx.done ?_
    refine Gx.thenN ?_
    refine Gx.block ?_
    refine Gx.loop (ι := Nat) (fun ξ => (ξ ≤ xs.length) ∧ (∀ q, q < ξ → xs[q]? = ys[q]?)) (fun ξ => [(0, va), (1, vb), (5, .int .i64 ((ξ : Nat) : Int))]) (fun ξ => []) (fun ξ => xs.length - ξ) 0 ⟨by first | omega | (dsimp only; omega), by omega⟩ ((.cons rfl (.cons rfl (.cons rfl .nil)))) rfl ?_
    rintro k ⟨hk, he⟩
    refine Gx.know (m' := [(0, va), (1, vb), (5, .int .i64 ((k : Nat) : Int))]) (.cons rfl (.cons rfl (.cons rfl .nil))) (Gx.norm (l' := []) rfl ?_)
    refine Gx.seq ?_
    refine Gx.seq ?_
    refine Gx.region ?_
    refine Gx.val rfl rfl rfl (val_move rfl rfl) ?_
    refine Gx.val rfl rfl rfl (val_move rfl rfl) ?_
    refine Gx.val rfl rfl rfl (val_len rfl Try.underlying24 rfl (len_base ha)) ?_
    refine Gx.val rfl rfl rfl (val_lss rfl rfl rfl) ?_
    refine Gx.done ?_
    refine Gx.thenN ?_
    refine Gx.dec rfl (fun h2 => ?_) (fun h2 => ?_)
    · refine Gx.skip ?_
      refine Gx.thenN ?_
      refine Gx.seq ?_
      refine Gx.block ?_
      refine Gx.seq ?_
      refine Gx.regionQ Try.mixed (by kernel_rfl) ?_
      refine Gq.val rfl rfl rfl (val_move rfl rfl) ?_
      refine Gq.val rfl rfl rfl (val_move rfl rfl) ?_
      obtain ⟨x3, hx3⟩ := get_of_lt (xs := xs) (k := k) (by omega)
      refine Gq.val rfl rfl rfl (val_ixa rfl Try.underlying24 Try.ty27 rfl rfl (j := k) (rfl) (reach_base ha hx3)) ?_
      refine Gq.val rfl rfl rfl (val_load rfl Try.ty27 rfl rfl (cell_base (i := 0) ha hx3 rfl)) ?_
      refine Gq.val rfl rfl rfl (val_move rfl rfl) ?_
      refine Gq.val rfl rfl rfl (val_move rfl rfl) ?_
      obtain ⟨x4, hx4⟩ := get_of_lt (xs := ys) (k := k) (by omega)
      refine Gq.val rfl rfl rfl (val_ixa rfl Try.underlying24 Try.ty27 rfl rfl (j := k) (rfl) (reach_base hb hx4)) ?_
      refine Gq.val rfl rfl rfl (val_load rfl Try.ty27 rfl rfl (cell_base (i := 0) hb hx4 rfl)) ?_
      refine Gq.val rfl rfl rfl (val_neq rfl rfl rfl) ?_
      refine Gq.done ?_
      refine Gx.thenN ?_
      refine Gx.dec rfl (fun h5 => ?_) (fun h5 => ?_)
      · refine Gx.seq ?_
        refine Gx.region ?_
        refine Gx.val rfl rfl rfl (val_assign rfl rfl) ?_
        refine Gx.done ?_
        refine Gx.thenN ?_
        refine Gx.ret ?_
        refine Gx.blkR ?_
        refine Gx.thenR ?_
        refine Gx.thenR ?_
        refine Gx.blkR ?_
        refine Gx.thenR ?_
        refine Gx.ret1 Try.results10 rfl ?_
        exact (congrArg Value.bool (decide_eq_false fun h => by subst h; have q := hx3.symm.trans hx4; cases q; omega)).symm
      · refine Gx.skip ?_
        refine Gx.blkN ?_
        refine Gx.thenN ?_
        refine Gx.region ?_
        refine Gx.val rfl rfl rfl (val_move rfl rfl) ?_
        refine Gx.val rfl rfl rfl (val_add rfl rfl rfl (r := ((k + 1 : Nat) : Int)) (w64 (by omega) (by omega))) ?_
        refine Gx.val rfl rfl rfl (val_assign rfl rfl) ?_
        refine Gx.done ?_
        refine Gx.thenN ?_
        exact Gx.round (k + 1) ⟨by first | omega | (dsimp only; omega), fun q hq => by rcases Nat.lt_or_eq_of_le (Nat.le_of_lt_succ hq) with h | rfl; (exact he q h); (rw [hx3, hx4]; exact congrArg some (by omega))⟩ (by first | omega | (dsimp only; omega)) ((.cons rfl (.cons rfl (.cons rfl .nil)))) rfl
    · refine Gx.exit ?_
      refine Gx.thenE ?_
      refine Gx.thenE ?_
      refine Gx.blkE ?_
      refine Gx.thenN ?_
      refine Gx.seq ?_
      refine Gx.region ?_
      refine Gx.val rfl rfl rfl (val_assign rfl rfl) ?_
      refine Gx.done ?_
      refine Gx.thenN ?_
      refine Gx.ret ?_
      refine Gx.ret1 Try.results10 rfl ?_
      exact (congrArg Value.bool (decide_eq_true (List.ext_getElem? fun q => by rcases Nat.lt_or_ge q k with h | h; (exact he q h); (rw [List.getElem?_eq_none (by omega), List.getElem?_eq_none (by omega)])))).symm

theorem play_some {W : World} {nv sv : Value} {names : List Int} {cs : List Mv} (hm : SlS SZ 1 W nv names) (hs : SlS FM 2 W sv cs) :
    Calls Try.prog 7 #[nv, sv] W fun e w' => ∃ v, e = .returned v ∧ (∃ (a a' : Option Addr) (m c m' c' : Nat) (z1 z2 z : Int), v = .tuple #[.agg #[.slice a m c, .slice a' m' c', .int .i64 z1, .int .i64 z2], .int .i64 z]) ∧ Below W.heap.size W w' := by
  by_cases h : names.length = 0 ∨ 6 < names.length ∨ 120 < cs.length
  · exact (play_no1 hm hs h).mono fun e w' ⟨he, hb⟩ => ⟨_, he, ⟨_, _, _, _, _, _, _, _, _, rfl⟩, hb⟩
  · by_cases h2 : names.Nodup
    · refine (play_ok hm hs (by omega) (by omega) (by omega) h2).mono fun e w' ⟨v, he, ⟨cv, dv, hv, h1, h2⟩, hb⟩ => ⟨v, he, ?_, hb⟩
      obtain ⟨_, _, _, rfl⟩ := h1.isS
      obtain ⟨_, _, _, rfl⟩ := h2.isS
      exact ⟨_, _, _, _, _, _, _, _, _, hv⟩
    · exact (play_no3 hm hs h h2).mono fun e w' ⟨he, hb⟩ => ⟨_, he, ⟨_, _, _, _, _, _, _, _, _, rfl⟩, hb⟩
theorem front_no1 {W : World} {nv sv : Value} {names : List Int} {cs : List Mv} {k : Nat} (hm : SlS SZ 1 W nv names) (hs : SlS FM 2 W sv cs) (hk : k ≤ 255) (hbad : names.length = 0 ∨ 6 < names.length ∨ 120 < cs.length) :
    Calls Try.prog 6 #[nv, sv, .int .u8 ((k : Nat) : Int)] W fun e w' => e = .returned (.bool true) ∧ Below W.heap.size W w' := by
  have hk9 := hk
  have hkm := Nat.mod_lt k (show 0 < cs.length + 1 by omega)
  have hm9 := sls_bd hs
  refine calls_pure (Gx.enter (l := []) Try.func6 rfl Try.ntmps6 rfl (Sat.start W) ?_)
  refine Gx.know (m' := [(0, nv), (1, sv), (2, .int .u8 ((k : Nat) : Int))]) (.cons rfl (.cons rfl (.cons rfl .nil))) ?_
  refine Gx.seq ?_
  refine Gx.region ?_
  refine Gx.val rfl rfl rfl (val_assign rfl rfl) ?_
  refine Gx.done ?_
  refine Gx.thenN ?_
  refine Gx.seq ?_
  refine Gx.region ?_
  refine Gx.val rfl rfl rfl (val_move rfl rfl) ?_
  refine Gx.val rfl rfl rfl (val_move rfl rfl) ?_
  refine Gx.val rfl rfl rfl (val_call (vs := [nv, sv]) rfl Try.fn7 rfl (fun w H => play_no1 (hm.below H.below) (hs.below H.below) hbad)) ?_
  refine Gx.val rfl rfl rfl (val_move rfl rfl) ?_
  refine Gx.val rfl rfl rfl (val_extract rfl rfl rfl) ?_
  refine Gx.val rfl rfl rfl (val_extract rfl rfl rfl) ?_
  refine Gx.eff rfl rfl rfl (eff_alloc rfl Try.ty26 (vs := [.slice none 0 0, .slice none 0 0, .int .i64 0, .int .i64 0]) rfl) ?_
  rintro _ _ ⟨b1, rfl, rfl⟩
  refine Gx.eff0 rfl rfl (eff_store rfl Try.ty26 rfl rfl (us := [.slice none 0 0, .slice none 0 0, .int .i64 0, .int .i64 0]) rfl rfl rfl (k := 0) rfl (rfl) (vs' := [.slice none 0 0, .slice none 0 0, .int .i64 0, .int .i64 0]) (rfl) (l' := [Hp.rec_ b1 [.slice none 0 0, .slice none 0 0, .int .i64 0, .int .i64 0]]) rfl) ?_
  rintro _ _ rfl
  refine Gx.val rfl rfl rfl (val_assign rfl rfl) ?_
  refine Gx.done ?_
  refine Gx.thenN ?_
  refine Gx.seq ?_
  refine Gx.region ?_
  refine Gx.val rfl rfl rfl (val_move rfl rfl) ?_
  refine Gx.val rfl rfl rfl (val_conv rfl Try.underlying5 Try.underlying3 rfl (r := ((k : Nat) : Int)) (w64 rfl (by omega))) ?_
  refine Gx.val rfl rfl rfl (val_move rfl rfl) ?_
  refine Gx.val rfl rfl rfl (val_len rfl Try.underlying23 rfl (len_base hs)) ?_
  refine Gx.val rfl rfl rfl (val_add rfl rfl rfl (r := ((cs.length + 1 : Nat) : Int)) (w64 (by omega) (by omega))) ?_
  refine Gx.val rfl rfl rfl (val_rem rfl rfl rfl (r := ((k % (cs.length + 1) : Nat) : Int)) (by omega) (rfl)) ?_
  refine Gx.val rfl rfl rfl (val_assign rfl rfl) ?_
  refine Gx.done ?_
  refine Gx.thenN ?_
  refine Gx.seq ?_
  refine Gx.region ?_
  refine Gx.val rfl rfl rfl (val_move rfl rfl) ?_
  refine Gx.val rfl rfl rfl (val_move rfl rfl) ?_
  refine Gx.val rfl rfl rfl (val_move rfl rfl) ?_
  have hcut2 : SlS FM 2 W (sCut 2 0 (k % (cs.length + 1)) sv) (cs.take (k % (cs.length + 1))) := (hs).cut (lo := 0) (hi := k % (cs.length + 1)) (by omega) (by omega)
  refine Gx.val rfl rfl rfl (val_cutTo (up := k % (cs.length + 1)) rfl Try.underlying23 Try.ty34 rfl hs rfl (rfl) (by omega)) ?_
  refine Gx.eff rfl rfl rfl (eff_callE (vs := [nv, sCut 2 0 (k % (cs.length + 1)) sv]) rfl Try.fn7 rfl (R := fun v => ∃ (a a' : Option Addr) (m c m' c' : Nat) (z1 z2 z : Int), v = .tuple #[.agg #[.slice a m c, .slice a' m' c', .int .i64 z1, .int .i64 z2], .int .i64 z]) (fun w H => play_some (hm.below H.below) (hcut2.below H.below))) ?_
  rintro _ _ ⟨⟨za6, zb7, zd8, zp9, zq10, zr11, zz3, zz4, zz5, rfl⟩, rfl⟩
  refine Gx.val rfl rfl rfl (val_move rfl rfl) ?_
  refine Gx.val rfl rfl rfl (val_extract rfl rfl rfl) ?_
  refine Gx.val rfl rfl rfl (val_extract rfl rfl rfl) ?_
  refine Gx.eff rfl rfl rfl (eff_alloc rfl Try.ty26 (vs := [.slice none 0 0, .slice none 0 0, .int .i64 0, .int .i64 0]) rfl) ?_
  rintro _ _ ⟨b12, rfl, rfl⟩
  refine Gx.eff0 rfl rfl (eff_store rfl Try.ty26 rfl rfl (us := [.slice za6 zd8 zp9, .slice zb7 zq10 zr11, .int .i64 zz3, .int .i64 zz4]) rfl rfl rfl (k := 0) rfl (rfl) (vs' := [.slice za6 zd8 zp9, .slice zb7 zq10 zr11, .int .i64 zz3, .int .i64 zz4]) (rfl) (l' := [Hp.rec_ b12 [.slice za6 zd8 zp9, .slice zb7 zq10 zr11, .int .i64 zz3, .int .i64 zz4], Hp.rec_ b1 [.slice none 0 0, .slice none 0 0, .int .i64 0, .int .i64 0]]) rfl) ?_
  rintro _ _ rfl
  refine Gx.val rfl rfl rfl (val_assign rfl rfl) ?_
  refine Gx.done ?_
  refine Gx.thenN ?_
  refine Gx.seq ?_
  refine Gx.seq ?_
  refine Gx.region ?_
  refine Gx.val rfl rfl rfl (val_move rfl rfl) ?_
  refine Gx.val rfl rfl rfl (Val.cast (val_neq rfl rfl rfl) (v' := .bool true) rfl) ?_
  refine Gx.done ?_
  refine Gx.thenN ?_
  refine Gx.t rfl ?_
  refine Gx.seq ?_
  refine Gx.region ?_
  refine Gx.val rfl rfl rfl (val_assign rfl rfl) ?_
  refine Gx.done ?_
  refine Gx.thenN ?_
  refine Gx.ret ?_
  refine Gx.thenR ?_
  refine Gx.ret1 Try.results6 rfl ?_
  rfl

theorem front_no3 {W : World} {nv sv : Value} {names : List Int} {cs : List Mv} {k : Nat} (hm : SlS SZ 1 W nv names) (hs : SlS FM 2 W sv cs) (hk : k ≤ 255) (hok : ¬ (names.length = 0 ∨ 6 < names.length ∨ 120 < cs.length)) (hbad : ¬ names.Nodup) :
    Calls Try.prog 6 #[nv, sv, .int .u8 ((k : Nat) : Int)] W fun e w' => e = .returned (.bool true) ∧ Below W.heap.size W w' := by
  have hk9 := hk
  have hkm := Nat.mod_lt k (show 0 < cs.length + 1 by omega)
  have hm9 := sls_bd hs
  refine calls_pure (Gx.enter (l := []) Try.func6 rfl Try.ntmps6 rfl (Sat.start W) ?_)
  refine Gx.know (m' := [(0, nv), (1, sv), (2, .int .u8 ((k : Nat) : Int))]) (.cons rfl (.cons rfl (.cons rfl .nil))) ?_
  refine Gx.seq ?_
  refine Gx.region ?_
  refine Gx.val rfl rfl rfl (val_assign rfl rfl) ?_
  refine Gx.done ?_
  refine Gx.thenN ?_
  refine Gx.seq ?_
  refine Gx.region ?_
  refine Gx.val rfl rfl rfl (val_move rfl rfl) ?_
  refine Gx.val rfl rfl rfl (val_move rfl rfl) ?_
  refine Gx.val rfl rfl rfl (val_call (vs := [nv, sv]) rfl Try.fn7 rfl (fun w H => play_no3 (hm.below H.below) (hs.below H.below) hok hbad)) ?_
  refine Gx.val rfl rfl rfl (val_move rfl rfl) ?_
  refine Gx.val rfl rfl rfl (val_extract rfl rfl rfl) ?_
  refine Gx.val rfl rfl rfl (val_extract rfl rfl rfl) ?_
  refine Gx.eff rfl rfl rfl (eff_alloc rfl Try.ty26 (vs := [.slice none 0 0, .slice none 0 0, .int .i64 0, .int .i64 0]) rfl) ?_
  rintro _ _ ⟨b1, rfl, rfl⟩
  refine Gx.eff0 rfl rfl (eff_store rfl Try.ty26 rfl rfl (us := [.slice none 0 0, .slice none 0 0, .int .i64 0, .int .i64 0]) rfl rfl rfl (k := 0) rfl (rfl) (vs' := [.slice none 0 0, .slice none 0 0, .int .i64 0, .int .i64 0]) (rfl) (l' := [Hp.rec_ b1 [.slice none 0 0, .slice none 0 0, .int .i64 0, .int .i64 0]]) rfl) ?_
  rintro _ _ rfl
  refine Gx.val rfl rfl rfl (val_assign rfl rfl) ?_
  refine Gx.done ?_
  refine Gx.thenN ?_
  refine Gx.seq ?_
  refine Gx.region ?_
  refine Gx.val rfl rfl rfl (val_move rfl rfl) ?_
  refine Gx.val rfl rfl rfl (val_conv rfl Try.underlying5 Try.underlying3 rfl (r := ((k : Nat) : Int)) (w64 rfl (by omega))) ?_
  refine Gx.val rfl rfl rfl (val_move rfl rfl) ?_
  refine Gx.val rfl rfl rfl (val_len rfl Try.underlying23 rfl (len_base hs)) ?_
  refine Gx.val rfl rfl rfl (val_add rfl rfl rfl (r := ((cs.length + 1 : Nat) : Int)) (w64 (by omega) (by omega))) ?_
  refine Gx.val rfl rfl rfl (val_rem rfl rfl rfl (r := ((k % (cs.length + 1) : Nat) : Int)) (by omega) (rfl)) ?_
  refine Gx.val rfl rfl rfl (val_assign rfl rfl) ?_
  refine Gx.done ?_
  refine Gx.thenN ?_
  refine Gx.seq ?_
  refine Gx.region ?_
  refine Gx.val rfl rfl rfl (val_move rfl rfl) ?_
  refine Gx.val rfl rfl rfl (val_move rfl rfl) ?_
  refine Gx.val rfl rfl rfl (val_move rfl rfl) ?_
  have hcut2 : SlS FM 2 W (sCut 2 0 (k % (cs.length + 1)) sv) (cs.take (k % (cs.length + 1))) := (hs).cut (lo := 0) (hi := k % (cs.length + 1)) (by omega) (by omega)
  refine Gx.val rfl rfl rfl (val_cutTo (up := k % (cs.length + 1)) rfl Try.underlying23 Try.ty34 rfl hs rfl (rfl) (by omega)) ?_
  refine Gx.eff rfl rfl rfl (eff_callE (vs := [nv, sCut 2 0 (k % (cs.length + 1)) sv]) rfl Try.fn7 rfl (R := fun v => ∃ (a a' : Option Addr) (m c m' c' : Nat) (z1 z2 z : Int), v = .tuple #[.agg #[.slice a m c, .slice a' m' c', .int .i64 z1, .int .i64 z2], .int .i64 z]) (fun w H => play_some (hm.below H.below) (hcut2.below H.below))) ?_
  rintro _ _ ⟨⟨za6, zb7, zd8, zp9, zq10, zr11, zz3, zz4, zz5, rfl⟩, rfl⟩
  refine Gx.val rfl rfl rfl (val_move rfl rfl) ?_
  refine Gx.val rfl rfl rfl (val_extract rfl rfl rfl) ?_
  refine Gx.val rfl rfl rfl (val_extract rfl rfl rfl) ?_
  refine Gx.eff rfl rfl rfl (eff_alloc rfl Try.ty26 (vs := [.slice none 0 0, .slice none 0 0, .int .i64 0, .int .i64 0]) rfl) ?_
  rintro _ _ ⟨b12, rfl, rfl⟩
  refine Gx.eff0 rfl rfl (eff_store rfl Try.ty26 rfl rfl (us := [.slice za6 zd8 zp9, .slice zb7 zq10 zr11, .int .i64 zz3, .int .i64 zz4]) rfl rfl rfl (k := 0) rfl (rfl) (vs' := [.slice za6 zd8 zp9, .slice zb7 zq10 zr11, .int .i64 zz3, .int .i64 zz4]) (rfl) (l' := [Hp.rec_ b12 [.slice za6 zd8 zp9, .slice zb7 zq10 zr11, .int .i64 zz3, .int .i64 zz4], Hp.rec_ b1 [.slice none 0 0, .slice none 0 0, .int .i64 0, .int .i64 0]]) rfl) ?_
  rintro _ _ rfl
  refine Gx.val rfl rfl rfl (val_assign rfl rfl) ?_
  refine Gx.done ?_
  refine Gx.thenN ?_
  refine Gx.seq ?_
  refine Gx.seq ?_
  refine Gx.region ?_
  refine Gx.val rfl rfl rfl (val_move rfl rfl) ?_
  refine Gx.val rfl rfl rfl (Val.cast (val_neq rfl rfl rfl) (v' := .bool true) rfl) ?_
  refine Gx.done ?_
  refine Gx.thenN ?_
  refine Gx.t rfl ?_
  refine Gx.seq ?_
  refine Gx.region ?_
  refine Gx.val rfl rfl rfl (val_assign rfl rfl) ?_
  refine Gx.done ?_
  refine Gx.thenN ?_
  refine Gx.ret ?_
  refine Gx.thenR ?_
  refine Gx.ret1 Try.results6 rfl ?_
  rfl

theorem front_yes {W : World} {nv sv : Value} {names : List Int} {cs : List Mv} {k : Nat} (hm : SlS SZ 1 W nv names) (hs : SlS FM 2 W sv cs) (hk : k ≤ 255) (h1n : 1 ≤ names.length) (h6n : names.length ≤ 6) (hcl : cs.length ≤ 120) (hnd : names.Nodup) :
    Calls Try.prog 6 #[nv, sv, .int .u8 ((k : Nat) : Int)] W fun e w' => e = .returned (.bool true) ∧ Below W.heap.size W w' := by
  have hk9 := hk
  have hkm := Nat.mod_lt k (show 0 < cs.length + 1 by omega)
  have hm9 := sls_bd hs
  have hlt : (cs.take (k % (cs.length + 1))).length = k % (cs.length + 1) := by rw [List.length_take]; omega
  have hcp : codesR (rs0 names) (cs.take (k % (cs.length + 1))) = (codesR (rs0 names) cs).take (k % (cs.length + 1)) := by
    have h7 := codesR_app (cs.take (k % (cs.length + 1))) (cs.drop (k % (cs.length + 1))) (rs0 names)
    rw [List.take_append_drop] at h7
    rw [h7, List.take_left' (by rw [codesR_len]; exact hlt)]
  have hle : LeR (stR (rs0 names) (cs.take (k % (cs.length + 1)))) (stR (rs0 names) cs) := by
    have := LeR.run (cs.drop (k % (cs.length + 1))) (stR (rs0 names) (cs.take (k % (cs.length + 1))))
    rwa [← stR_app, List.take_append_drop] at this
  have hles := hle.sent
  refine calls_pure (Gx.enter (l := []) Try.func6 rfl Try.ntmps6 rfl (Sat.start W) ?_)
  refine Gx.know (m' := [(0, nv), (1, sv), (2, .int .u8 ((k : Nat) : Int))]) (.cons rfl (.cons rfl (.cons rfl .nil))) ?_
  refine Gx.seq ?_
  refine Gx.region ?_
  refine Gx.val rfl rfl rfl (val_assign rfl rfl) ?_
  refine Gx.done ?_
  refine Gx.thenN ?_
  refine Gx.seq ?_
  refine Gx.region ?_
  refine Gx.val rfl rfl rfl (val_move rfl rfl) ?_
  refine Gx.val rfl rfl rfl (val_move rfl rfl) ?_
  refine Gx.callB rfl rfl rfl (vs := [nv, sv]) rfl Try.fn7 rfl (R := fun v w' => ∃ (cv chv : Value), v = .tuple #[.agg #[cv, chv, .int .i64 (((stR (rs0 names) cs).sent : Nat) : Int), .int .i64 ((awayR (stR (rs0 names) cs).ss names.length : Nat) : Int)], .int .i64 0] ∧ SlS FZ 1 w' cv (codesR (rs0 names) cs) ∧ SlS FN 1 w' chv (stR (rs0 names) cs).ch) (fun w H => play_ok (hm.below H.below) (hs.below H.below) h1n h6n (by omega) hnd) ?_
  rintro _ W3 ⟨cv1, dv2, rfl, hcv1, hdv2⟩ H4
  have hW5 := H4.below
  have hs6 := hm.below H4.below
  have hs7 := hs.below H4.below
  have hclcv1 : (codesR (rs0 names) cs).length = (cs).length := codesR_len ..
  obtain ⟨sa8, sn9, sc10, rfl⟩ := hcv1.isS
  obtain ⟨sa11, sn12, sc13, rfl⟩ := hdv2.isS
  refine Gx.val rfl rfl rfl (val_move rfl rfl) ?_
  refine Gx.val rfl rfl rfl (val_extract rfl rfl rfl) ?_
  refine Gx.val rfl rfl rfl (val_extract rfl rfl rfl) ?_
  refine Gx.eff rfl rfl rfl (eff_alloc rfl Try.ty26 (vs := [.slice none 0 0, .slice none 0 0, .int .i64 0, .int .i64 0]) rfl) ?_
  rintro _ _ ⟨b14, rfl, rfl⟩
  refine Gx.eff0 rfl rfl (eff_store rfl Try.ty26 rfl rfl (us := [.slice sa8 sn9 sc10, .slice sa11 sn12 sc13, .int .i64 (((stR (rs0 names) cs).sent : Nat) : Int), .int .i64 ((awayR (stR (rs0 names) cs).ss names.length : Nat) : Int)]) rfl rfl rfl (k := 0) rfl (rfl) (vs' := [.slice sa8 sn9 sc10, .slice sa11 sn12 sc13, .int .i64 (((stR (rs0 names) cs).sent : Nat) : Int), .int .i64 ((awayR (stR (rs0 names) cs).ss names.length : Nat) : Int)]) (rfl) (l' := [Hp.rec_ b14 [.slice sa8 sn9 sc10, .slice sa11 sn12 sc13, .int .i64 (((stR (rs0 names) cs).sent : Nat) : Int), .int .i64 ((awayR (stR (rs0 names) cs).ss names.length : Nat) : Int)]]) rfl) ?_
  rintro _ _ rfl
  refine Gx.val rfl rfl rfl (val_assign rfl rfl) ?_
  refine Gx.done ?_
  refine Gx.thenN ?_
  refine Gx.seq ?_
  refine Gx.region ?_
  refine Gx.val rfl rfl rfl (val_move rfl rfl) ?_
  refine Gx.val rfl rfl rfl (val_conv rfl Try.underlying5 Try.underlying3 rfl (r := ((k : Nat) : Int)) (w64 rfl (by omega))) ?_
  refine Gx.val rfl rfl rfl (val_move rfl rfl) ?_
  refine Gx.val rfl rfl rfl (val_len rfl Try.underlying23 rfl (len_base hs7)) ?_
  refine Gx.val rfl rfl rfl (val_add rfl rfl rfl (r := ((cs.length + 1 : Nat) : Int)) (w64 (by omega) (by omega))) ?_
  refine Gx.val rfl rfl rfl (val_rem rfl rfl rfl (r := ((k % (cs.length + 1) : Nat) : Int)) (by omega) (rfl)) ?_
  refine Gx.val rfl rfl rfl (val_assign rfl rfl) ?_
  refine Gx.done ?_
  refine Gx.thenN ?_
  refine Gx.seq ?_
  refine Gx.region ?_
  refine Gx.val rfl rfl rfl (val_move rfl rfl) ?_
  refine Gx.val rfl rfl rfl (val_move rfl rfl) ?_
  refine Gx.val rfl rfl rfl (val_move rfl rfl) ?_
  have hcut15 : SlS FM 2 W3 (sCut 2 0 (k % (cs.length + 1)) sv) (cs.take (k % (cs.length + 1))) := (hs7).cut (lo := 0) (hi := k % (cs.length + 1)) (by omega) (by omega)
  refine Gx.val rfl rfl rfl (val_cutTo (up := k % (cs.length + 1)) rfl Try.underlying23 Try.ty34 rfl hs7 rfl (rfl) (by omega)) ?_
  refine Gx.callB rfl rfl rfl (vs := [nv, sCut 2 0 (k % (cs.length + 1)) sv]) rfl Try.fn7 rfl (R := fun v w' => ∃ (cv chv : Value), v = .tuple #[.agg #[cv, chv, .int .i64 (((stR (rs0 names) (cs.take (k % (cs.length + 1)))).sent : Nat) : Int), .int .i64 ((awayR (stR (rs0 names) (cs.take (k % (cs.length + 1)))).ss names.length : Nat) : Int)], .int .i64 0] ∧ SlS FZ 1 w' cv (codesR (rs0 names) (cs.take (k % (cs.length + 1)))) ∧ SlS FN 1 w' chv (stR (rs0 names) (cs.take (k % (cs.length + 1)))).ch) (fun w H => play_ok (hs6.below H.below) (hcut15.below H.below) h1n h6n (by rw [List.length_take]; omega) hnd) ?_
  rintro _ W18 ⟨cv16, dv17, rfl, hcv16, hdv17⟩ H19
  have hW20 := hW5.trans (H19.below.mono hW5.size)
  have hs21 := hs6.below H19.below
  have hs22 := hs7.below H19.below
  have hs23 := hcv1.below H19.below
  have hs24 := hdv2.below H19.below
  have hs25 := hcut15.below H19.below
  have hb26 := (H19.at_ (k := 0) rfl).rec_.1
  have hc27 := (H19.at_ (k := 0) rfl).cell 0 (u := .slice sa8 sn9 sc10) rfl
  have hc28 := (H19.at_ (k := 0) rfl).cell 1 (u := .slice sa11 sn12 sc13) rfl
  have hc29 := (H19.at_ (k := 0) rfl).cell 2 (u := .int .i64 (((stR (rs0 names) cs).sent : Nat) : Int)) rfl
  have hc30 := (H19.at_ (k := 0) rfl).cell 3 (u := .int .i64 ((awayR (stR (rs0 names) cs).ss names.length : Nat) : Int)) rfl
  have hclcv16 : (codesR (rs0 names) (cs.take (k % (cs.length + 1)))).length = ((cs.take (k % (cs.length + 1)))).length := codesR_len ..
  obtain ⟨sa31, sn32, sc33, rfl⟩ := hcv16.isS
  obtain ⟨sa34, sn35, sc36, rfl⟩ := hdv17.isS
  refine Gx.val rfl rfl rfl (val_move rfl rfl) ?_
  refine Gx.val rfl rfl rfl (val_extract rfl rfl rfl) ?_
  refine Gx.val rfl rfl rfl (val_extract rfl rfl rfl) ?_
  refine Gx.eff rfl rfl rfl (eff_alloc rfl Try.ty26 (vs := [.slice none 0 0, .slice none 0 0, .int .i64 0, .int .i64 0]) rfl) ?_
  rintro _ _ ⟨b37, rfl, rfl⟩
  refine Gx.eff0 rfl rfl (eff_store rfl Try.ty26 rfl rfl (us := [.slice sa31 sn32 sc33, .slice sa34 sn35 sc36, .int .i64 (((stR (rs0 names) (cs.take (k % (cs.length + 1)))).sent : Nat) : Int), .int .i64 ((awayR (stR (rs0 names) (cs.take (k % (cs.length + 1)))).ss names.length : Nat) : Int)]) rfl rfl rfl (k := 0) rfl (rfl) (vs' := [.slice sa31 sn32 sc33, .slice sa34 sn35 sc36, .int .i64 (((stR (rs0 names) (cs.take (k % (cs.length + 1)))).sent : Nat) : Int), .int .i64 ((awayR (stR (rs0 names) (cs.take (k % (cs.length + 1)))).ss names.length : Nat) : Int)]) (rfl) (l' := [Hp.rec_ b37 [.slice sa31 sn32 sc33, .slice sa34 sn35 sc36, .int .i64 (((stR (rs0 names) (cs.take (k % (cs.length + 1)))).sent : Nat) : Int), .int .i64 ((awayR (stR (rs0 names) (cs.take (k % (cs.length + 1)))).ss names.length : Nat) : Int)]]) rfl) ?_
  rintro _ _ rfl
  refine Gx.val rfl rfl rfl (val_assign rfl rfl) ?_
  refine Gx.done ?_
  refine Gx.thenN ?_
  refine Gx.seq ?_
  refine Gx.seq ?_
  refine Gx.region ?_
  refine Gx.val rfl rfl rfl (val_move rfl rfl) ?_
  refine Gx.val rfl rfl rfl (Val.cast (val_neq rfl rfl rfl) (v' := .bool false) rfl) ?_
  refine Gx.done ?_
  refine Gx.thenN ?_
  refine Gx.f rfl ?_
  refine Gx.skip ?_
  refine Gx.thenN ?_
  refine Gx.seq ?_
  refine Gx.regionQ Try.mixed (by kernel_rfl) ?_
  refine Gq.val rfl rfl rfl (val_move rfl rfl) ?_
  refine Gq.val rfl rfl rfl (Val.cast (val_eql rfl rfl rfl) (v' := .bool true) rfl) ?_
  refine Gq.val rfl rfl rfl (val_move rfl rfl) ?_
  refine Gq.valg rfl rfl rfl rfl rfl (Val.cast (val_fieldAddr rfl Try.underlying26 rfl Try.ty24 rfl rfl) (v' := ptr b14 0) rfl) ?_
  refine Gq.valg rfl rfl rfl rfl rfl (val_load rfl Try.ty24 rfl rfl (cell_old hb26 hc27)) ?_
  refine Gq.valg rfl rfl rfl rfl rfl (val_len rfl Try.underlying24 rfl (len_base hs23)) ?_
  refine Gq.valg rfl rfl rfl rfl rfl (val_move rfl rfl) ?_
  refine Gq.valg rfl rfl rfl rfl rfl (val_len rfl Try.underlying23 rfl (len_base hs22)) ?_
  refine Gq.valg rfl rfl rfl rfl rfl (val_eql rfl rfl rfl) ?_
  refine Gq.val rfl rfl rfl (val_pickT rfl rfl rfl) ?_
  refine Gq.val rfl rfl rfl (val_move rfl rfl) ?_
  refine Gq.slot (t := 44) (v := .bool true) (look_decT rfl (by omega)) ?_
  refine Gq.valg rfl rfl rfl rfl rfl (Val.cast (val_fieldAddr rfl Try.underlying26 rfl Try.ty24 rfl rfl) (v' := ptr b37 0) rfl) ?_
  refine Gq.valg rfl rfl rfl rfl rfl (val_load rfl Try.ty24 rfl rfl (cell_rec (k := 0) rfl rfl)) ?_
  refine Gq.valg rfl rfl rfl rfl rfl (Val.cast (val_fieldAddr rfl Try.underlying26 rfl Try.ty24 rfl rfl) (v' := ptr b14 0) rfl) ?_
  refine Gq.valg rfl rfl rfl rfl rfl (val_load rfl Try.ty24 rfl rfl (cell_old hb26 hc27)) ?_
  refine Gq.valg rfl rfl rfl rfl rfl (val_move rfl rfl) ?_
  have hcut38 : SlS FZ 1 W18 (sCut 1 0 (k % (cs.length + 1)) (.slice sa8 sn9 sc10)) ((codesR (rs0 names) cs).take (k % (cs.length + 1))) := (hs23).cut (lo := 0) (hi := k % (cs.length + 1)) (by omega) (by omega)
  refine Gq.valg rfl rfl rfl rfl rfl (val_cutTo (up := k % (cs.length + 1)) rfl Try.underlying24 Try.ty27 rfl hs23 rfl (rfl) (by omega)) ?_
  refine Gq.valg rfl rfl rfl rfl rfl (val_call (vs := [.slice sa31 sn32 sc33, sCut 1 0 (k % (cs.length + 1)) (.slice sa8 sn9 sc10)]) rfl Try.fn10 rfl (fun w H => codes_any (hcv16.below H.below) (hcut38.below H.below))) ?_
  refine Gq.val rfl rfl rfl (val_pickT rfl rfl rfl) ?_
  refine Gq.val rfl rfl rfl (val_move rfl rfl) ?_
  refine Gq.slot (t := 53) (v := .bool true) (look_decT rfl (by omega)) ?_
  refine Gq.valg rfl rfl rfl rfl rfl (Val.cast (val_fieldAddr rfl Try.underlying26 rfl Try.ty22 rfl rfl) (v' := ptr b37 1) rfl) ?_
  refine Gq.valg rfl rfl rfl rfl rfl (val_load rfl Try.ty22 rfl rfl (cell_rec (k := 0) rfl rfl)) ?_
  refine Gq.valg rfl rfl rfl rfl rfl (Val.cast (val_fieldAddr rfl Try.underlying26 rfl Try.ty22 rfl rfl) (v' := ptr b14 1) rfl) ?_
  refine Gq.valg rfl rfl rfl rfl rfl (val_load rfl Try.ty22 rfl rfl (cell_old hb26 hc28)) ?_
  refine Gq.valg rfl rfl rfl rfl rfl (val_call (vs := [.slice sa34 sn35 sc36, .slice sa11 sn12 sc13]) rfl Try.fn11 rfl (fun w H => begins_any (hdv17.below H.below) (hs24.below H.below))) ?_
  refine Gq.val rfl rfl rfl (val_pickT rfl rfl rfl) ?_
  refine Gq.val rfl rfl rfl (val_move rfl rfl) ?_
  refine Gq.slot (t := 60) (v := .bool true) (look_boolT rfl (begB_yes hle.ch)) ?_
  refine Gq.valg rfl rfl rfl rfl rfl (Val.cast (val_fieldAddr rfl Try.underlying26 rfl Try.ty3 rfl rfl) (v' := ptr b37 2) rfl) ?_
  refine Gq.valg rfl rfl rfl rfl rfl (val_load rfl Try.ty3 rfl rfl (cell_rec (k := 0) rfl rfl)) ?_
  refine Gq.valg rfl rfl rfl rfl rfl (Val.cast (val_fieldAddr rfl Try.underlying26 rfl Try.ty3 rfl rfl) (v' := ptr b14 2) rfl) ?_
  refine Gq.valg rfl rfl rfl rfl rfl (val_load rfl Try.ty3 rfl rfl (cell_old hb26 hc29)) ?_
  refine Gq.valg rfl rfl rfl rfl rfl (val_leq rfl rfl rfl) ?_
  refine Gq.val rfl rfl rfl (val_pickT rfl rfl rfl) ?_
  refine Gq.val rfl rfl rfl (val_assign rfl rfl) ?_
  refine Gq.done ?_
  refine Gx.thenN ?_
  refine Gx.ret ?_
  refine Gx.ret1B hW20 Try.results6 rfl ?_
  first | rfl | exact congrArg Value.bool (decide_eq_true (by have := hle.sent; omega))

theorem front_any {W : World} {nv sv : Value} {names : List Int} {cs : List Mv} {z : Int} (h0 : 0 ≤ z) (h255 : z ≤ 255) (hm : SlS SZ 1 W nv names) (hs : SlS FM 2 W sv cs) :
    Calls Try.prog 6 #[nv, sv, .int .u8 z] W fun e w' => e = .returned (.bool true) ∧ Below W.heap.size W w' := by
  obtain ⟨k, rfl⟩ : ∃ k : Nat, z = (k : Int) := ⟨z.toNat, by omega⟩
  by_cases h : names.length = 0 ∨ 6 < names.length ∨ 120 < cs.length
  · exact front_no1 hm hs (by omega) h
  · by_cases h2 : names.Nodup
    · exact front_yes hm hs (by omega) (by omega) (by omega) (by omega) h2
    · exact front_no3 hm hs (by omega) h h2
theorem few_no1 {W : World} {nv sv : Value} {names : List Int} {cs : List Mv} (hm : SlS SZ 1 W nv names) (hs : SlS FM 2 W sv cs) (hbad : names.length = 0 ∨ 6 < names.length ∨ 120 < cs.length) :
    Calls Try.prog 4 #[nv, sv] W fun e w' => e = .returned (.bool true) ∧ Below W.heap.size W w' := by
  refine calls_pure (Gx.enter (l := []) Try.func4 rfl Try.ntmps4 rfl (Sat.start W) ?_)
  refine Gx.know (m' := [(0, nv), (1, sv)]) (.cons rfl (.cons rfl .nil)) ?_
  refine Gx.seq ?_
  refine Gx.region ?_
  refine Gx.val rfl rfl rfl (val_assign rfl rfl) ?_
  refine Gx.done ?_
  refine Gx.thenN ?_
  refine Gx.seq ?_
  refine Gx.region ?_
  refine Gx.val rfl rfl rfl (val_move rfl rfl) ?_
  refine Gx.val rfl rfl rfl (val_move rfl rfl) ?_
  refine Gx.val rfl rfl rfl (val_call (vs := [nv, sv]) rfl Try.fn7 rfl (fun w H => play_no1 (hm.below H.below) (hs.below H.below) hbad)) ?_
  refine Gx.val rfl rfl rfl (val_move rfl rfl) ?_
  refine Gx.val rfl rfl rfl (val_extract rfl rfl rfl) ?_
  refine Gx.val rfl rfl rfl (val_extract rfl rfl rfl) ?_
  refine Gx.eff rfl rfl rfl (eff_alloc rfl Try.ty26 (vs := [.slice none 0 0, .slice none 0 0, .int .i64 0, .int .i64 0]) rfl) ?_
  rintro _ _ ⟨b1, rfl, rfl⟩
  refine Gx.eff0 rfl rfl (eff_store rfl Try.ty26 rfl rfl (us := [.slice none 0 0, .slice none 0 0, .int .i64 0, .int .i64 0]) rfl rfl rfl (k := 0) rfl (rfl) (vs' := [.slice none 0 0, .slice none 0 0, .int .i64 0, .int .i64 0]) (rfl) (l' := [Hp.rec_ b1 [.slice none 0 0, .slice none 0 0, .int .i64 0, .int .i64 0]]) rfl) ?_
  rintro _ _ rfl
  refine Gx.val rfl rfl rfl (val_assign rfl rfl) ?_
  refine Gx.done ?_
  refine Gx.thenN ?_
  refine Gx.seq ?_
  refine Gx.seq ?_
  refine Gx.region ?_
  refine Gx.val rfl rfl rfl (val_move rfl rfl) ?_
  refine Gx.val rfl rfl rfl (Val.cast (val_neq rfl rfl rfl) (v' := .bool true) rfl) ?_
  refine Gx.done ?_
  refine Gx.thenN ?_
  refine Gx.t rfl ?_
  refine Gx.seq ?_
  refine Gx.region ?_
  refine Gx.val rfl rfl rfl (val_assign rfl rfl) ?_
  refine Gx.done ?_
  refine Gx.thenN ?_
  refine Gx.ret ?_
  refine Gx.thenR ?_
  refine Gx.ret1 Try.results4 rfl ?_
  rfl

theorem few_no3 {W : World} {nv sv : Value} {names : List Int} {cs : List Mv} (hm : SlS SZ 1 W nv names) (hs : SlS FM 2 W sv cs) (hok : ¬ (names.length = 0 ∨ 6 < names.length ∨ 120 < cs.length)) (hbad : ¬ names.Nodup) :
    Calls Try.prog 4 #[nv, sv] W fun e w' => e = .returned (.bool true) ∧ Below W.heap.size W w' := by
  refine calls_pure (Gx.enter (l := []) Try.func4 rfl Try.ntmps4 rfl (Sat.start W) ?_)
  refine Gx.know (m' := [(0, nv), (1, sv)]) (.cons rfl (.cons rfl .nil)) ?_
  refine Gx.seq ?_
  refine Gx.region ?_
  refine Gx.val rfl rfl rfl (val_assign rfl rfl) ?_
  refine Gx.done ?_
  refine Gx.thenN ?_
  refine Gx.seq ?_
  refine Gx.region ?_
  refine Gx.val rfl rfl rfl (val_move rfl rfl) ?_
  refine Gx.val rfl rfl rfl (val_move rfl rfl) ?_
  refine Gx.val rfl rfl rfl (val_call (vs := [nv, sv]) rfl Try.fn7 rfl (fun w H => play_no3 (hm.below H.below) (hs.below H.below) hok hbad)) ?_
  refine Gx.val rfl rfl rfl (val_move rfl rfl) ?_
  refine Gx.val rfl rfl rfl (val_extract rfl rfl rfl) ?_
  refine Gx.val rfl rfl rfl (val_extract rfl rfl rfl) ?_
  refine Gx.eff rfl rfl rfl (eff_alloc rfl Try.ty26 (vs := [.slice none 0 0, .slice none 0 0, .int .i64 0, .int .i64 0]) rfl) ?_
  rintro _ _ ⟨b1, rfl, rfl⟩
  refine Gx.eff0 rfl rfl (eff_store rfl Try.ty26 rfl rfl (us := [.slice none 0 0, .slice none 0 0, .int .i64 0, .int .i64 0]) rfl rfl rfl (k := 0) rfl (rfl) (vs' := [.slice none 0 0, .slice none 0 0, .int .i64 0, .int .i64 0]) (rfl) (l' := [Hp.rec_ b1 [.slice none 0 0, .slice none 0 0, .int .i64 0, .int .i64 0]]) rfl) ?_
  rintro _ _ rfl
  refine Gx.val rfl rfl rfl (val_assign rfl rfl) ?_
  refine Gx.done ?_
  refine Gx.thenN ?_
  refine Gx.seq ?_
  refine Gx.seq ?_
  refine Gx.region ?_
  refine Gx.val rfl rfl rfl (val_move rfl rfl) ?_
  refine Gx.val rfl rfl rfl (Val.cast (val_neq rfl rfl rfl) (v' := .bool true) rfl) ?_
  refine Gx.done ?_
  refine Gx.thenN ?_
  refine Gx.t rfl ?_
  refine Gx.seq ?_
  refine Gx.region ?_
  refine Gx.val rfl rfl rfl (val_assign rfl rfl) ?_
  refine Gx.done ?_
  refine Gx.thenN ?_
  refine Gx.ret ?_
  refine Gx.thenR ?_
  refine Gx.ret1 Try.results4 rfl ?_
  rfl

theorem few_yes {W : World} {nv sv : Value} {names : List Int} {cs : List Mv} (hm : SlS SZ 1 W nv names) (hs : SlS FM 2 W sv cs) (h1n : 1 ≤ names.length) (h6n : names.length ≤ 6) (hcl : cs.length ≤ 120) (hnd : names.Nodup) :
    Calls Try.prog 4 #[nv, sv] W fun e w' => e = .returned (.bool true) ∧ Below W.heap.size W w' := by
  obtain ⟨hh, ll, I⟩ := InvR.run (Dist.of hnd) cs (InvR.zero names)
  have hfew := I.few
  have haw : awayR (stR (rs0 names) cs).ss names.length ≤ (stR (rs0 names) cs).sent := by
    have h1 := away_le cs (s := rs0 names) (by rw [sumQ_zero]; exact Nat.zero_le _)
    have h2 := away_sum (stR (rs0 names) cs).ss
    rw [I.len] at h2; rw [h2]; exact h1
  have hmm : names.length * (names.length + 1) ≤ 6 * 7 := Nat.mul_le_mul h6n (by omega)
  refine calls_pure (Gx.enter (l := []) Try.func4 rfl Try.ntmps4 rfl (Sat.start W) ?_)
  refine Gx.know (m' := [(0, nv), (1, sv)]) (.cons rfl (.cons rfl .nil)) ?_
  refine Gx.seq ?_
  refine Gx.region ?_
  refine Gx.val rfl rfl rfl (val_assign rfl rfl) ?_
  refine Gx.done ?_
  refine Gx.thenN ?_
  refine Gx.seq ?_
  refine Gx.region ?_
  refine Gx.val rfl rfl rfl (val_move rfl rfl) ?_
  refine Gx.val rfl rfl rfl (val_move rfl rfl) ?_
  refine Gx.callB rfl rfl rfl (vs := [nv, sv]) rfl Try.fn7 rfl (R := fun v w' => ∃ (cv chv : Value), v = .tuple #[.agg #[cv, chv, .int .i64 (((stR (rs0 names) cs).sent : Nat) : Int), .int .i64 ((awayR (stR (rs0 names) cs).ss names.length : Nat) : Int)], .int .i64 0] ∧ SlS FZ 1 w' cv (codesR (rs0 names) cs) ∧ SlS FN 1 w' chv (stR (rs0 names) cs).ch) (fun w H => play_ok (hm.below H.below) (hs.below H.below) h1n h6n (by omega) hnd) ?_
  rintro _ W3 ⟨cv1, dv2, rfl, hcv1, hdv2⟩ H4
  have hW5 := H4.below
  have hs6 := hm.below H4.below
  have hs7 := hs.below H4.below
  have hclcv1 : (codesR (rs0 names) cs).length = (cs).length := codesR_len ..
  obtain ⟨sa8, sn9, sc10, rfl⟩ := hcv1.isS
  obtain ⟨sa11, sn12, sc13, rfl⟩ := hdv2.isS
  refine Gx.val rfl rfl rfl (val_move rfl rfl) ?_
  refine Gx.val rfl rfl rfl (val_extract rfl rfl rfl) ?_
  refine Gx.val rfl rfl rfl (val_extract rfl rfl rfl) ?_
  refine Gx.eff rfl rfl rfl (eff_alloc rfl Try.ty26 (vs := [.slice none 0 0, .slice none 0 0, .int .i64 0, .int .i64 0]) rfl) ?_
  rintro _ _ ⟨b14, rfl, rfl⟩
  refine Gx.eff0 rfl rfl (eff_store rfl Try.ty26 rfl rfl (us := [.slice sa8 sn9 sc10, .slice sa11 sn12 sc13, .int .i64 (((stR (rs0 names) cs).sent : Nat) : Int), .int .i64 ((awayR (stR (rs0 names) cs).ss names.length : Nat) : Int)]) rfl rfl rfl (k := 0) rfl (rfl) (vs' := [.slice sa8 sn9 sc10, .slice sa11 sn12 sc13, .int .i64 (((stR (rs0 names) cs).sent : Nat) : Int), .int .i64 ((awayR (stR (rs0 names) cs).ss names.length : Nat) : Int)]) (rfl) (l' := [Hp.rec_ b14 [.slice sa8 sn9 sc10, .slice sa11 sn12 sc13, .int .i64 (((stR (rs0 names) cs).sent : Nat) : Int), .int .i64 ((awayR (stR (rs0 names) cs).ss names.length : Nat) : Int)]]) rfl) ?_
  rintro _ _ rfl
  refine Gx.val rfl rfl rfl (val_assign rfl rfl) ?_
  refine Gx.done ?_
  refine Gx.thenN ?_
  refine Gx.seq ?_
  refine Gx.seq ?_
  refine Gx.region ?_
  refine Gx.val rfl rfl rfl (val_move rfl rfl) ?_
  refine Gx.val rfl rfl rfl (Val.cast (val_neq rfl rfl rfl) (v' := .bool false) rfl) ?_
  refine Gx.done ?_
  refine Gx.thenN ?_
  refine Gx.f rfl ?_
  refine Gx.skip ?_
  refine Gx.thenN ?_
  refine Gx.seq ?_
  refine Gx.region ?_
  refine Gx.val rfl rfl rfl (val_move rfl rfl) ?_
  refine Gx.val rfl rfl rfl (val_len rfl Try.underlying22 rfl (len_base hs6)) ?_
  refine Gx.val rfl rfl rfl (val_assign rfl rfl) ?_
  refine Gx.done ?_
  refine Gx.thenN ?_
  refine Gx.seq ?_
  refine Gx.region ?_
  refine Gx.val rfl rfl rfl (Val.cast (val_fieldAddr rfl Try.underlying26 rfl Try.ty24 rfl rfl) (v' := ptr b14 0) rfl) ?_
  refine Gx.val rfl rfl rfl (val_load rfl Try.ty24 rfl rfl (cell_rec (k := 0) rfl rfl)) ?_
  refine Gx.val rfl rfl rfl (val_len rfl Try.underlying24 rfl (len_base hcv1)) ?_
  refine Gx.val rfl rfl rfl (val_move rfl rfl) ?_
  refine Gx.val rfl rfl rfl (val_len rfl Try.underlying23 rfl (len_base hs7)) ?_
  refine Gx.val rfl rfl rfl (val_eql rfl rfl rfl) ?_
  refine Gx.val rfl rfl rfl (val_move rfl rfl) ?_
  refine Gx.slot (t := 24) (v := .bool true) (look_decT rfl (by omega)) ?_
  refine Gx.valg rfl rfl rfl rfl rfl (Val.cast (val_fieldAddr rfl Try.underlying26 rfl Try.ty3 rfl rfl) (v' := ptr b14 3) rfl) ?_
  refine Gx.valg rfl rfl rfl rfl rfl (val_load rfl Try.ty3 rfl rfl (cell_rec (k := 0) rfl rfl)) ?_
  refine Gx.valg rfl rfl rfl rfl rfl (val_geq rfl rfl rfl) ?_
  refine Gx.val rfl rfl rfl (val_pickT rfl rfl rfl) ?_
  refine Gx.val rfl rfl rfl (val_move rfl rfl) ?_
  refine Gx.slot (t := 29) (v := .bool true) (look_decT rfl (by omega)) ?_
  refine Gx.valg rfl rfl rfl rfl rfl (Val.cast (val_fieldAddr rfl Try.underlying26 rfl Try.ty3 rfl rfl) (v' := ptr b14 3) rfl) ?_
  refine Gx.valg rfl rfl rfl rfl rfl (val_load rfl Try.ty3 rfl rfl (cell_rec (k := 0) rfl rfl)) ?_
  refine Gx.valg rfl rfl rfl rfl rfl (Val.cast (val_fieldAddr rfl Try.underlying26 rfl Try.ty3 rfl rfl) (v' := ptr b14 2) rfl) ?_
  refine Gx.valg rfl rfl rfl rfl rfl (val_load rfl Try.ty3 rfl rfl (cell_rec (k := 0) rfl rfl)) ?_
  refine Gx.valg rfl rfl rfl rfl rfl (val_leq rfl rfl rfl) ?_
  refine Gx.val rfl rfl rfl (val_pickT rfl rfl rfl) ?_
  refine Gx.val rfl rfl rfl (val_move rfl rfl) ?_
  refine Gx.slot (t := 36) (v := .bool true) (look_decT rfl (by omega)) ?_
  refine Gx.valg rfl rfl rfl rfl rfl (Val.cast (val_fieldAddr rfl Try.underlying26 rfl Try.ty3 rfl rfl) (v' := ptr b14 2) rfl) ?_
  refine Gx.valg rfl rfl rfl rfl rfl (val_load rfl Try.ty3 rfl rfl (cell_rec (k := 0) rfl rfl)) ?_
  refine Gx.valg rfl rfl rfl rfl rfl (val_move rfl rfl) ?_
  refine Gx.valg rfl rfl rfl rfl rfl (val_move rfl rfl) ?_
  refine Gx.valg rfl rfl rfl rfl rfl (val_add rfl rfl rfl (r := ((names.length + 1 : Nat) : Int)) (w64 (by omega) (by omega))) ?_
  refine Gx.valg rfl rfl rfl rfl rfl (val_mul rfl rfl rfl (r := ((names.length * (names.length + 1) : Nat) : Int)) (w64 (by omega) (by omega))) ?_
  refine Gx.valg rfl rfl rfl rfl rfl (val_quo rfl rfl rfl (r := ((names.length * (names.length + 1) / 2 : Nat) : Int)) (by omega) (w64 (by rw [Int.tdiv_eq_ediv_of_nonneg (by omega)]; omega) (by omega))) ?_
  refine Gx.valg rfl rfl rfl rfl rfl (val_leq rfl rfl rfl) ?_
  refine Gx.val rfl rfl rfl (val_pickT rfl rfl rfl) ?_
  refine Gx.val rfl rfl rfl (val_assign rfl rfl) ?_
  refine Gx.done ?_
  refine Gx.thenN ?_
  refine Gx.ret ?_
  refine Gx.ret1B hW5 Try.results4 rfl ?_
  first | rfl | exact congrArg Value.bool (decide_eq_true (by omega))

theorem few_any {W : World} {nv sv : Value} {names : List Int} {cs : List Mv} (hm : SlS SZ 1 W nv names) (hs : SlS FM 2 W sv cs) :
    Calls Try.prog 4 #[nv, sv] W fun e w' => e = .returned (.bool true) ∧ Below W.heap.size W w' := by
  by_cases h : names.length = 0 ∨ 6 < names.length ∨ 120 < cs.length
  · exact few_no1 hm hs h
  · by_cases h2 : names.Nodup
    · exact few_yes hm hs (by omega) (by omega) (by omega) h2
    · exact few_no3 hm hs h h2
end Go.Proofs.Yteejbaindbiimaa
