/- When it was told that all rests, nothing changes any more. No condition. -/
import Derived.Test.YtgnpngiecnkfiaaB1
import Derived.Test.YtgnpngiecnkfiaaX8
namespace Go.Proofs.Ytgnpngiecnkfiaa
open Go.RowKit
set_option linter.unusedVariables false
set_option linter.unusedSimpArgs false
set_option maxRecDepth 100000

theorem front {n m : Nat} {cs : List Cm} {ks ks' : List Int} {ws bs ws' bs' : List Bool} {aw aw' : Nat} {dn dn' : Bool} (G : PlayF n (cs.take m) ks' ws' bs' aw' dn') (F : PlayF n cs ks ws bs aw dn) (hm : m ≤ cs.length) :
    ks' = ks.take m ∧ (dn' = true → dn = true ∧ ∀ i x, m ≤ i → ks[i]? = some x → x ≠ 0) := by
  have e : cs = cs.take m ++ cs.drop m := (List.take_append_drop m cs).symm
  have hlt : (cs.take m).length = m := by rw [List.length_take]; omega
  have ek : ks = ks' ++ codesQ n (stQ n (qs0 n) (cs.take m)) (cs.drop m) := by
    rw [F.k, G.k]; conv => lhs; rw [e]
    exact codesQ_app ..
  have hk' : ks'.length = m := by rw [G.kl, hlt]
  refine ⟨by rw [ek, List.take_left' hk'], fun h => ?_⟩
  have hd := run_dead F.h6 (cs.drop m) G.tr (G.d ▸ h) (by rw [stQ_len, qs0_len])
  refine ⟨?_, fun i x hi hx => ?_⟩
  · rw [F.d, e, stQ_app, hd.1, ← G.d]; exact h
  · rw [ek, List.getElem?_append_right (by omega)] at hx
    exact hd.2 x (List.mem_of_getElem? hx)
theorem codes_any {W : World} {va vb : Value} {xs ys : List Int} (ha : SlS FZ 1 W va xs) (hb : SlS FZ 1 W vb ys) : Calls Try.prog 8 #[va, vb] W fun e w' => e = .returned (.bool (decide (xs = ys))) ∧ Below W.heap.size W w' := by
  have m1 := sls_bd ha
  have m2 := sls_bd hb
  refine calls_pure (Gx.enter (l := []) Try.func8 rfl Try.ntmps8 rfl (Sat.start W) ?_)
  refine Gx.know (m' := [(0, va), (1, vb)]) (.cons rfl (.cons rfl .nil)) ?_
  refine Gx.seq ?_
  refine Gx.region ?_
  refine Gx.val rfl rfl rfl (val_assign rfl rfl) ?_
  refine Gx.done ?_
  refine Gx.thenN ?_
  refine Gx.seq ?_
  refine Gx.seq ?_
  refine Gx.region ?_
  refine Gx.val rfl rfl rfl (val_move rfl rfl) ?_
  refine Gx.val rfl rfl rfl (val_len rfl Try.underlying23 rfl (len_base ha)) ?_
  refine Gx.val rfl rfl rfl (val_move rfl rfl) ?_
  refine Gx.val rfl rfl rfl (val_len rfl Try.underlying23 rfl (len_base hb)) ?_
  refine Gx.val rfl rfl rfl (val_neq rfl rfl rfl) ?_
  refine Gx.done ?_
  refine Gx.thenN ?_
  refine Gx.dec rfl (fun h1 => ?_) (fun h1 => ?_)
  · refine Gx.seq ?_
    refine Gx.region ?_
    refine Gx.val rfl rfl rfl (val_assign rfl rfl) ?_
    refine Gx.done ?_
    refine Gx.thenN ?_
    refine Gx.ret ?_
    refine Gx.thenR ?_
    refine Gx.ret1 Try.results8 rfl ?_
    exact (congrArg Value.bool (decide_eq_false fun h => by subst h; omega)).symm
  · refine Gx.skip ?_
    refine Gx.thenN ?_
    refine Gx.seq ?_
    refine Gx.seq ?_
    refine Gx.region ?_
    refine Gx.val rfl rfl rfl (val_assign rfl rfl) ?_
    refine Gx.done ?_
    refine Gx.thenN ?_
    refine Gx.block ?_
    refine Gx.loop (ι := Nat) (fun ξ => (ξ ≤ xs.length) ∧ (∀ q, q < ξ → xs[q]? = ys[q]?)) (fun ξ => [(0, va), (1, vb), (5, .int .i64 ((ξ : Nat) : Int))]) (fun ξ => []) (fun ξ => xs.length - ξ) 0 ⟨by omega, by omega⟩ ((.cons rfl (.cons rfl (.cons rfl .nil)))) rfl ?_
    rintro k ⟨hk, he⟩
    refine Gx.know (m' := [(0, va), (1, vb), (5, .int .i64 ((k : Nat) : Int))]) (.cons rfl (.cons rfl (.cons rfl .nil))) (Gx.norm (l' := []) rfl ?_)
    refine Gx.seq ?_
    refine Gx.seq ?_
    refine Gx.region ?_
    refine Gx.val rfl rfl rfl (val_move rfl rfl) ?_
    refine Gx.val rfl rfl rfl (val_move rfl rfl) ?_
    refine Gx.val rfl rfl rfl (val_len rfl Try.underlying23 rfl (len_base ha)) ?_
    refine Gx.val rfl rfl rfl (val_lss rfl rfl rfl) ?_
    refine Gx.done ?_
    refine Gx.thenN ?_
    refine Gx.dec rfl (fun h2 => ?_) (fun h2 => ?_)
    · refine Gx.skip ?_
      refine Gx.thenN ?_
      refine Gx.seq ?_
      refine Gx.block ?_
      refine Gx.seq ?_
      refine Gx.regionQ Try.mixed (by kernel_rfl) ?_
      refine Gq.val rfl rfl rfl (val_move rfl rfl) ?_
      refine Gq.val rfl rfl rfl (val_move rfl rfl) ?_
      obtain ⟨x3, hx3⟩ := get_of_lt (xs := xs) (k := k) (by omega)
      refine Gq.val rfl rfl rfl (val_ixa rfl Try.underlying23 Try.ty27 rfl rfl (j := k) (rfl) (reach_base ha hx3)) ?_
      refine Gq.val rfl rfl rfl (val_load rfl Try.ty27 rfl rfl (cell_base (i := 0) ha hx3 rfl)) ?_
      refine Gq.val rfl rfl rfl (val_move rfl rfl) ?_
      refine Gq.val rfl rfl rfl (val_move rfl rfl) ?_
      obtain ⟨x4, hx4⟩ := get_of_lt (xs := ys) (k := k) (by omega)
      refine Gq.val rfl rfl rfl (val_ixa rfl Try.underlying23 Try.ty27 rfl rfl (j := k) (rfl) (reach_base hb hx4)) ?_
      refine Gq.val rfl rfl rfl (val_load rfl Try.ty27 rfl rfl (cell_base (i := 0) hb hx4 rfl)) ?_
      refine Gq.val rfl rfl rfl (val_neq rfl rfl rfl) ?_
      refine Gq.done ?_
      refine Gx.thenN ?_
      refine Gx.dec rfl (fun h5 => ?_) (fun h5 => ?_)
      · refine Gx.seq ?_
        refine Gx.region ?_
        refine Gx.val rfl rfl rfl (val_assign rfl rfl) ?_
        refine Gx.done ?_
        refine Gx.thenN ?_
        refine Gx.ret ?_
        refine Gx.blkR ?_
        refine Gx.thenR ?_
        refine Gx.thenR ?_
        refine Gx.blkR ?_
        refine Gx.thenR ?_
        refine Gx.ret1 Try.results8 rfl ?_
        exact (congrArg Value.bool (decide_eq_false fun h => by subst h; have q := hx3.symm.trans hx4; cases q; omega)).symm
      · refine Gx.skip ?_
        refine Gx.blkN ?_
        refine Gx.thenN ?_
        refine Gx.region ?_
        refine Gx.val rfl rfl rfl (val_move rfl rfl) ?_
        refine Gx.val rfl rfl rfl (val_add rfl rfl rfl (r := ((k + 1 : Nat) : Int)) (w64 (by omega) (by omega))) ?_
        refine Gx.val rfl rfl rfl (val_assign rfl rfl) ?_
        refine Gx.done ?_
        refine Gx.thenN ?_
        exact Gx.round (k + 1) ⟨by omega, fun q hq => by rcases Nat.lt_or_eq_of_le (Nat.le_of_lt_succ hq) with h | rfl; (exact he q h); (rw [hx3, hx4]; exact congrArg some (by omega))⟩ (by omega) ((.cons rfl (.cons rfl (.cons rfl .nil)))) rfl
    · refine Gx.exit ?_
      refine Gx.thenE ?_
      refine Gx.thenE ?_
      refine Gx.blkE ?_
      refine Gx.thenN ?_
      refine Gx.seq ?_
      refine Gx.region ?_
      refine Gx.val rfl rfl rfl (val_assign rfl rfl) ?_
      refine Gx.done ?_
      refine Gx.thenN ?_
      refine Gx.ret ?_
      refine Gx.ret1 Try.results8 rfl ?_
      exact (congrArg Value.bool (decide_eq_true (List.ext_getElem? fun q => by rcases Nat.lt_or_ge q k with h | h; (exact he q h); (rw [List.getElem?_eq_none (by omega), List.getElem?_eq_none (by omega)])))).symm

def PlayA (v : Value) : Prop := ∃ a1 l1 c1 a2 l2 c2 a3 l3 c3 aw dn e, v = .tuple #[.agg #[.slice a1 l1 c1, .slice a2 l2 c2, .slice a3 l3 c3, .int .i64 aw, .bool dn], .int .i64 e]
theorem play_a {W : World} (n : Int) {sv : Value} {cs : List Cm} (hs : SlS FC 3 W sv cs) : Calls Try.prog 7 #[.int .i64 n, sv] W fun e w' => ∃ v, e = .returned v ∧ PlayA v ∧ Below W.heap.size W w' := by
  by_cases h : 1 ≤ n ∧ n ≤ 6 ∧ cs.length ≤ 120
  · obtain ⟨m, rfl⟩ := Int.eq_ofNat_of_zero_le (show 0 ≤ n by omega)
    refine (play_v hs (by omega) (by omega) (by omega)).mono ?_
    rintro e w' ⟨v, he, ⟨a1, c1, a2, c2, a3, c3, ks, ws, bs, aw, dn, rfl, _⟩, hb⟩
    exact ⟨_, he, ⟨_, _, _, _, _, _, _, _, _, _, _, _, rfl⟩, hb⟩
  · refine (play_no hs (k := n) (by omega)).mono ?_
    rintro e w' ⟨he, hb⟩
    exact ⟨_, he, ⟨_, _, _, _, _, _, _, _, _, _, _, _, rfl⟩, hb⟩
theorem front_out {W : World} {sv : Value} {cs : List Cm} {n : Int} {k : Nat} (hk : k < 256) (hs : SlS FC 3 W sv cs) (hbad : n < 1 ∨ 6 < n ∨ 120 < (cs.length : Int)) :
    Calls Try.prog 5 #[.int .i64 n, sv, .int .u8 ((k : Nat) : Int)] W fun e w' => e = .returned (.bool true) ∧ Below W.heap.size W w' := by
  have hlen := sls_bd hs
  have hk8 : k < 256 := hk
  have hat : k % (cs.length + 1) ≤ cs.length := Nat.le_of_lt_succ (Nat.mod_lt _ (by omega))
  refine calls_pure (Gx.enter (l := []) Try.func5 rfl Try.ntmps5 rfl (Sat.start W) ?_)
  refine Gx.know (m' := [(0, .int .i64 n), (1, sv), (2, .int .u8 ((k : Nat) : Int))]) (.cons rfl (.cons rfl (.cons rfl .nil))) ?_
  refine Gx.seq ?_
  refine Gx.region ?_
  refine Gx.val rfl rfl rfl (val_assign rfl rfl) ?_
  refine Gx.done ?_
  refine Gx.thenN ?_
  refine Gx.seq ?_
  refine Gx.region ?_
  refine Gx.val rfl rfl rfl (val_move rfl rfl) ?_
  refine Gx.val rfl rfl rfl (val_move rfl rfl) ?_
  refine Gx.val rfl rfl rfl (val_call (vs := [.int .i64 n, sv]) rfl Try.fn7 rfl (fun w H => play_no (hs.below H.below) hbad)) ?_
  refine Gx.val rfl rfl rfl (val_move rfl rfl) ?_
  refine Gx.val rfl rfl rfl (val_extract rfl rfl rfl) ?_
  refine Gx.val rfl rfl rfl (val_extract rfl rfl rfl) ?_
  refine Gx.eff rfl rfl rfl (eff_alloc rfl Try.ty26 (vs := [.slice none 0 0, .slice none 0 0, .slice none 0 0, .int .i64 0, .bool false]) rfl) ?_
  rintro _ _ ⟨b1, rfl, rfl⟩
  refine Gx.eff0 rfl rfl (eff_store rfl Try.ty26 rfl rfl (us := [.slice none 0 0, .slice none 0 0, .slice none 0 0, .int .i64 0, .bool false]) rfl rfl rfl (k := 0) rfl rfl (vs' := [.slice none 0 0, .slice none 0 0, .slice none 0 0, .int .i64 0, .bool false]) rfl (l' := [Hp.rec_ b1 [.slice none 0 0, .slice none 0 0, .slice none 0 0, .int .i64 0, .bool false]]) rfl) ?_
  rintro _ _ rfl
  refine Gx.val rfl rfl rfl (val_assign rfl rfl) ?_
  refine Gx.done ?_
  refine Gx.thenN ?_
  refine Gx.seq ?_
  refine Gx.region ?_
  refine Gx.val rfl rfl rfl (val_move rfl rfl) ?_
  refine Gx.val rfl rfl rfl (val_conv rfl Try.underlying5 Try.underlying3 rfl (r := ((k : Nat) : Int)) (w64 rfl (by omega))) ?_
  refine Gx.val rfl rfl rfl (val_move rfl rfl) ?_
  refine Gx.val rfl rfl rfl (val_len rfl Try.underlying22 rfl (len_base hs)) ?_
  refine Gx.val rfl rfl rfl (val_add rfl rfl rfl (r := ((cs.length + 1 : Nat) : Int)) (w64 (by omega) (by omega))) ?_
  refine Gx.val rfl rfl rfl (val_rem rfl rfl rfl (r := ((k % (cs.length + 1) : Nat) : Int)) (by omega) (rfl)) ?_
  refine Gx.val rfl rfl rfl (val_assign rfl rfl) ?_
  refine Gx.done ?_
  refine Gx.thenN ?_
  refine Gx.seq ?_
  refine Gx.region ?_
  refine Gx.val rfl rfl rfl (val_move rfl rfl) ?_
  refine Gx.val rfl rfl rfl (val_move rfl rfl) ?_
  refine Gx.val rfl rfl rfl (val_move rfl rfl) ?_
  have hcut2 : SlS FC 3 W (sCut 3 0 (k % (cs.length + 1)) sv) (cs.take (k % (cs.length + 1))) := (hs).cut (lo := 0) (hi := k % (cs.length + 1)) (by omega) (by omega)
  refine Gx.val rfl rfl rfl (val_cutTo (up := k % (cs.length + 1)) rfl Try.underlying22 Try.ty32 rfl hs rfl (rfl) (by omega)) ?_
  refine Gx.eff rfl rfl rfl (eff_callE (vs := [.int .i64 n, sCut 3 0 (k % (cs.length + 1)) sv]) rfl Try.fn7 rfl (R := PlayA) (fun w H => play_a n (hcut2.below H.below))) ?_
  rintro _ _ ⟨⟨a3, l4, c5, a6, l7, c8, a9, l10, c11, aw12, dn13, e14, rfl⟩, rfl⟩
  refine Gx.val rfl rfl rfl (val_move rfl rfl) ?_
  refine Gx.val rfl rfl rfl (val_extract rfl rfl rfl) ?_
  refine Gx.val rfl rfl rfl (val_extract rfl rfl rfl) ?_
  refine Gx.eff rfl rfl rfl (eff_alloc rfl Try.ty26 (vs := [.slice none 0 0, .slice none 0 0, .slice none 0 0, .int .i64 0, .bool false]) rfl) ?_
  rintro _ _ ⟨b15, rfl, rfl⟩
  refine Gx.eff0 rfl rfl (eff_store rfl Try.ty26 rfl rfl (us := [.slice a3 l4 c5, .slice a6 l7 c8, .slice a9 l10 c11, .int .i64 aw12, .bool dn13]) rfl rfl rfl (k := 0) rfl rfl (vs' := [.slice a3 l4 c5, .slice a6 l7 c8, .slice a9 l10 c11, .int .i64 aw12, .bool dn13]) rfl (l' := [Hp.rec_ b15 [.slice a3 l4 c5, .slice a6 l7 c8, .slice a9 l10 c11, .int .i64 aw12, .bool dn13], Hp.rec_ b1 [.slice none 0 0, .slice none 0 0, .slice none 0 0, .int .i64 0, .bool false]]) rfl) ?_
  rintro _ _ rfl
  refine Gx.val rfl rfl rfl (val_assign rfl rfl) ?_
  refine Gx.done ?_
  refine Gx.thenN ?_
  refine Gx.seq ?_
  refine Gx.seq ?_
  refine Gx.region ?_
  refine Gx.val rfl rfl rfl (val_move rfl rfl) ?_
  refine Gx.val rfl rfl rfl (Val.cast (val_neq rfl rfl rfl) (v' := .bool true) rfl) ?_
  refine Gx.done ?_
  refine Gx.thenN ?_
  refine Gx.t rfl ?_
  refine Gx.seq ?_
  refine Gx.region ?_
  refine Gx.val rfl rfl rfl (val_assign rfl rfl) ?_
  refine Gx.done ?_
  refine Gx.thenN ?_
  refine Gx.ret ?_
  refine Gx.thenR ?_
  refine Gx.ret1 Try.results5 rfl ?_
  rfl

theorem front_in {W : World} {sv : Value} {cs : List Cm} {n k : Nat} (hk : k < 256) (hs : SlS FC 3 W sv cs) (h1 : 1 ≤ n) (h6 : n ≤ 6) (hl : cs.length ≤ 120) :
    Calls Try.prog 5 #[.int .i64 ((n : Nat) : Int), sv, .int .u8 ((k : Nat) : Int)] W fun e w' => e = .returned (.bool true) ∧ Below W.heap.size W w' := by
  have hlen := sls_bd hs
  have hk8 : k < 256 := hk
  have hat : k % (cs.length + 1) ≤ cs.length := Nat.le_of_lt_succ (Nat.mod_lt _ (by omega))
  refine calls_pure (Gx.enter (l := []) Try.func5 rfl Try.ntmps5 rfl (Sat.start W) ?_)
  refine Gx.know (m' := [(0, .int .i64 ((n : Nat) : Int)), (1, sv), (2, .int .u8 ((k : Nat) : Int))]) (.cons rfl (.cons rfl (.cons rfl .nil))) ?_
  refine Gx.seq ?_
  refine Gx.region ?_
  refine Gx.val rfl rfl rfl (val_assign rfl rfl) ?_
  refine Gx.done ?_
  refine Gx.thenN ?_
  refine Gx.seq ?_
  refine Gx.region ?_
  refine Gx.val rfl rfl rfl (val_move rfl rfl) ?_
  refine Gx.val rfl rfl rfl (val_move rfl rfl) ?_
  refine Gx.callB rfl rfl rfl (vs := [.int .i64 ((n : Nat) : Int), sv]) rfl Try.fn7 rfl (R := PlayV n cs) (fun w H => (play_v (hs.below H.below) (by omega) (by omega) (by (first | omega | (rw [List.length_take]; omega))))) ?_
  rintro _ W2 ⟨a11, c11, a21, c21, a31, c31, ks1, ws1, bs1, aw1, dn1, rfl, hk1, hw1, hb1, hF1⟩ H3
  have hW4 := H3.below
  have hs5 := hs.below H3.below
  have hkl1 := hF1.kl
  have hwl1 := hF1.wl
  have hbl1 := hF1.bl
  refine Gx.val rfl rfl rfl (val_move rfl rfl) ?_
  refine Gx.val rfl rfl rfl (val_extract rfl rfl rfl) ?_
  refine Gx.val rfl rfl rfl (val_extract rfl rfl rfl) ?_
  refine Gx.eff rfl rfl rfl (eff_alloc rfl Try.ty26 (vs := [.slice none 0 0, .slice none 0 0, .slice none 0 0, .int .i64 0, .bool false]) rfl) ?_
  rintro _ _ ⟨b6, rfl, rfl⟩
  refine Gx.eff0 rfl rfl (eff_store rfl Try.ty26 rfl rfl (us := [.slice a11 cs.length c11, .slice a21 n c21, .slice a31 n c31, .int .i64 ((aw1 : Nat) : Int), .bool dn1]) rfl rfl rfl (k := 0) rfl rfl (vs' := [.slice a11 cs.length c11, .slice a21 n c21, .slice a31 n c31, .int .i64 ((aw1 : Nat) : Int), .bool dn1]) rfl (l' := [Hp.rec_ b6 [.slice a11 cs.length c11, .slice a21 n c21, .slice a31 n c31, .int .i64 ((aw1 : Nat) : Int), .bool dn1]]) rfl) ?_
  rintro _ _ rfl
  refine Gx.val rfl rfl rfl (val_assign rfl rfl) ?_
  refine Gx.done ?_
  refine Gx.thenN ?_
  refine Gx.seq ?_
  refine Gx.region ?_
  refine Gx.val rfl rfl rfl (val_move rfl rfl) ?_
  refine Gx.val rfl rfl rfl (val_conv rfl Try.underlying5 Try.underlying3 rfl (r := ((k : Nat) : Int)) (w64 rfl (by omega))) ?_
  refine Gx.val rfl rfl rfl (val_move rfl rfl) ?_
  refine Gx.val rfl rfl rfl (val_len rfl Try.underlying22 rfl (len_base hs5)) ?_
  refine Gx.val rfl rfl rfl (val_add rfl rfl rfl (r := ((cs.length + 1 : Nat) : Int)) (w64 (by omega) (by omega))) ?_
  refine Gx.val rfl rfl rfl (val_rem rfl rfl rfl (r := ((k % (cs.length + 1) : Nat) : Int)) (by omega) (rfl)) ?_
  refine Gx.val rfl rfl rfl (val_assign rfl rfl) ?_
  refine Gx.done ?_
  refine Gx.thenN ?_
  refine Gx.seq ?_
  refine Gx.region ?_
  refine Gx.val rfl rfl rfl (val_move rfl rfl) ?_
  refine Gx.val rfl rfl rfl (val_move rfl rfl) ?_
  refine Gx.val rfl rfl rfl (val_move rfl rfl) ?_
  have hcut7 : SlS FC 3 W2 (sCut 3 0 (k % (cs.length + 1)) sv) (cs.take (k % (cs.length + 1))) := (hs5).cut (lo := 0) (hi := k % (cs.length + 1)) (by omega) (by omega)
  refine Gx.val rfl rfl rfl (val_cutTo (up := k % (cs.length + 1)) rfl Try.underlying22 Try.ty32 rfl hs5 rfl (rfl) (by omega)) ?_
  refine Gx.callB rfl rfl rfl (vs := [.int .i64 ((n : Nat) : Int), sCut 3 0 (k % (cs.length + 1)) sv]) rfl Try.fn7 rfl (R := PlayV n (cs.take (k % (cs.length + 1)))) (fun w H => (play_v (hcut7.below H.below) (by omega) (by omega) (by (first | omega | (rw [List.length_take]; omega))))) ?_
  rintro _ W9 ⟨a18, c18, a28, c28, a38, c38, ks8, ws8, bs8, aw8, dn8, rfl, hk8, hw8, hb8, hF8⟩ H10
  have hW11 := hW4.trans (H10.below.mono hW4.size)
  have hs12 := hs5.below H10.below
  have hs13 := hk1.below H10.below
  have hs14 := hw1.below H10.below
  have hs15 := hb1.below H10.below
  have hs16 := hcut7.below H10.below
  have hb17 := (H10.at_ (k := 0) rfl).rec_.1
  have hc18 := (H10.at_ (k := 0) rfl).cell 0 (u := .slice a11 cs.length c11) rfl
  have hc19 := (H10.at_ (k := 0) rfl).cell 1 (u := .slice a21 n c21) rfl
  have hc20 := (H10.at_ (k := 0) rfl).cell 2 (u := .slice a31 n c31) rfl
  have hc21 := (H10.at_ (k := 0) rfl).cell 3 (u := .int .i64 ((aw1 : Nat) : Int)) rfl
  have hc22 := (H10.at_ (k := 0) rfl).cell 4 (u := .bool dn1) rfl
  have hkl8 := hF8.kl
  have hwl8 := hF8.wl
  have hbl8 := hF8.bl
  refine Gx.val rfl rfl rfl (val_move rfl rfl) ?_
  refine Gx.val rfl rfl rfl (val_extract rfl rfl rfl) ?_
  refine Gx.val rfl rfl rfl (val_extract rfl rfl rfl) ?_
  refine Gx.eff rfl rfl rfl (eff_alloc rfl Try.ty26 (vs := [.slice none 0 0, .slice none 0 0, .slice none 0 0, .int .i64 0, .bool false]) rfl) ?_
  rintro _ _ ⟨b23, rfl, rfl⟩
  refine Gx.eff0 rfl rfl (eff_store rfl Try.ty26 rfl rfl (us := [.slice a18 (cs.take (k % (cs.length + 1))).length c18, .slice a28 n c28, .slice a38 n c38, .int .i64 ((aw8 : Nat) : Int), .bool dn8]) rfl rfl rfl (k := 0) rfl rfl (vs' := [.slice a18 (cs.take (k % (cs.length + 1))).length c18, .slice a28 n c28, .slice a38 n c38, .int .i64 ((aw8 : Nat) : Int), .bool dn8]) rfl (l' := [Hp.rec_ b23 [.slice a18 (cs.take (k % (cs.length + 1))).length c18, .slice a28 n c28, .slice a38 n c38, .int .i64 ((aw8 : Nat) : Int), .bool dn8]]) rfl) ?_
  rintro _ _ rfl
  refine Gx.val rfl rfl rfl (val_assign rfl rfl) ?_
  refine Gx.done ?_
  refine Gx.thenN ?_
  refine Gx.seq ?_
  refine Gx.seq ?_
  refine Gx.region ?_
  refine Gx.val rfl rfl rfl (val_move rfl rfl) ?_
  refine Gx.val rfl rfl rfl (Val.cast (val_neq rfl rfl rfl) (v' := .bool false) rfl) ?_
  refine Gx.done ?_
  refine Gx.thenN ?_
  refine Gx.f rfl ?_
  refine Gx.skip ?_
  refine Gx.thenN ?_
  refine Gx.seq ?_
  refine Gx.seq ?_
  refine Gx.regionQ Try.mixed (by kernel_rfl) ?_
  refine Gq.val rfl rfl rfl (val_move rfl rfl) ?_
  refine Gq.val rfl rfl rfl (Val.cast (val_neq rfl rfl rfl) (v' := .bool false) rfl) ?_
  refine Gq.val rfl rfl rfl (val_move rfl rfl) ?_
  refine Gq.valg rfl rfl rfl rfl rfl (Val.cast (val_fieldAddr rfl Try.underlying26 rfl Try.ty24 rfl rfl) (v' := ptr b6 1) rfl) ?_
  refine Gq.valg rfl rfl rfl rfl rfl (val_load rfl Try.ty24 rfl rfl (cell_old hb17 hc19)) ?_
  refine Gq.valg rfl rfl rfl rfl rfl (val_len rfl Try.underlying24 rfl (len_base hs14)) ?_
  refine Gq.valg rfl rfl rfl rfl rfl (val_move rfl rfl) ?_
  refine Gq.valg rfl rfl rfl rfl rfl (val_neq rfl rfl rfl) ?_
  refine Gq.val rfl rfl rfl (val_pickF rfl rfl rfl) ?_
  refine Gq.val rfl rfl rfl (val_move rfl rfl) ?_
  refine Gq.slot (t := 44) (v := .bool false) (look_decF rfl (by omega)) ?_
  refine Gq.valg rfl rfl rfl rfl rfl (Val.cast (val_fieldAddr rfl Try.underlying26 rfl Try.ty23 rfl rfl) (v' := ptr b6 0) rfl) ?_
  refine Gq.valg rfl rfl rfl rfl rfl (val_load rfl Try.ty23 rfl rfl (cell_old hb17 hc18)) ?_
  refine Gq.valg rfl rfl rfl rfl rfl (val_len rfl Try.underlying23 rfl (len_base hs13)) ?_
  refine Gq.valg rfl rfl rfl rfl rfl (val_move rfl rfl) ?_
  refine Gq.valg rfl rfl rfl rfl rfl (val_len rfl Try.underlying22 rfl (len_base hs12)) ?_
  refine Gq.valg rfl rfl rfl rfl rfl (val_neq rfl rfl rfl) ?_
  refine Gq.val rfl rfl rfl (val_pickF rfl rfl rfl) ?_
  refine Gq.val rfl rfl rfl (val_move rfl rfl) ?_
  refine Gq.slot (t := 52) (v := .bool false) (look_decF rfl (by omega)) ?_
  refine Gq.valg rfl rfl rfl rfl rfl (Val.cast (val_fieldAddr rfl Try.underlying26 rfl Try.ty23 rfl rfl) (v' := ptr b23 0) rfl) ?_
  refine Gq.valg rfl rfl rfl rfl rfl (val_load rfl Try.ty23 rfl rfl (cell_rec (k := 0) rfl rfl)) ?_
  refine Gq.valg rfl rfl rfl rfl rfl (Val.cast (val_fieldAddr rfl Try.underlying26 rfl Try.ty23 rfl rfl) (v' := ptr b6 0) rfl) ?_
  refine Gq.valg rfl rfl rfl rfl rfl (val_load rfl Try.ty23 rfl rfl (cell_old hb17 hc18)) ?_
  refine Gq.valg rfl rfl rfl rfl rfl (val_move rfl rfl) ?_
  have hcut24 : SlS FZ 1 W9 (sCut 1 0 (k % (cs.length + 1)) (.slice a11 cs.length c11)) (ks1.take (k % (cs.length + 1))) := (hs13).cut (lo := 0) (hi := k % (cs.length + 1)) (by omega) (by omega)
  refine Gq.valg rfl rfl rfl rfl rfl (val_cutTo (up := k % (cs.length + 1)) rfl Try.underlying23 Try.ty27 rfl hs13 rfl (rfl) (by omega)) ?_
  refine Gq.valg rfl rfl rfl rfl rfl (val_call (vs := [.slice a18 (cs.take (k % (cs.length + 1))).length c18, sCut 1 0 (k % (cs.length + 1)) (.slice a11 cs.length c11)]) rfl Try.fn8 rfl (fun w H => codes_any (hk8.below H.below) (hcut24.below H.below))) ?_
  refine Gq.valg rfl rfl rfl rfl rfl (val_notD rfl rfl) ?_
  refine Gq.val rfl rfl rfl (val_pickF rfl rfl rfl) ?_
  refine Gq.done ?_
  refine Gx.thenN ?_
  refine Gx.decF rfl (fun q => q (front hF8 hF1 hat).1) ?_
  refine Gx.skip ?_
  refine Gx.thenN ?_
  refine Gx.seq ?_
  refine Gx.seq ?_
  refine Gx.region ?_
  refine Gx.val rfl rfl rfl (Val.cast (val_fieldAddr rfl Try.underlying26 rfl Try.ty4 rfl rfl) (v' := ptr b23 4) rfl) ?_
  refine Gx.val rfl rfl rfl (val_load rfl Try.ty4 rfl rfl (cell_rec (k := 0) rfl rfl)) ?_
  refine Gx.val rfl rfl rfl (val_not rfl rfl) ?_
  refine Gx.done ?_
  refine Gx.thenN ?_
  refine Gx.bool rfl (fun h25 => ?_) (fun h25 => ?_)
  · refine Gx.seq ?_
    refine Gx.region ?_
    refine Gx.val rfl rfl rfl (val_assign rfl rfl) ?_
    refine Gx.done ?_
    refine Gx.thenN ?_
    refine Gx.ret ?_
    refine Gx.thenR ?_
    refine Gx.ret1B hW11 Try.results5 rfl ?_
    rfl
  · refine Gx.skip ?_
    refine Gx.thenN ?_
    refine Gx.seq ?_
    refine Gx.seq ?_
    refine Gx.region ?_
    refine Gx.val rfl rfl rfl (val_move rfl rfl) ?_
    refine Gx.val rfl rfl rfl (val_assign rfl rfl) ?_
    refine Gx.done ?_
    refine Gx.thenN ?_
    refine Gx.block ?_
    refine Gx.loop (ι := Nat) (fun ξ => (k % (cs.length + 1) ≤ ξ) ∧ (ξ ≤ cs.length)) (fun ξ => [(0, .int .i64 ((n : Nat) : Int)), (1, sv), (7, ptr b6 0), (10, ptr b23 0), (12, .int .i64 ((ξ : Nat) : Int))]) (fun ξ => [Hp.rec_ b23 [.slice a18 (cs.take (k % (cs.length + 1))).length c18, .slice a28 n c28, .slice a38 n c38, .int .i64 ((aw8 : Nat) : Int), .bool dn8]]) (fun ξ => cs.length - ξ) (k % (cs.length + 1)) ⟨by omega, by omega⟩ ((.cons rfl (.cons rfl (.cons rfl (.cons rfl (.cons rfl .nil)))))) rfl ?_
    rintro i ⟨hi0, hi⟩
    refine Gx.know (m' := [(0, .int .i64 ((n : Nat) : Int)), (1, sv), (7, ptr b6 0), (10, ptr b23 0), (12, .int .i64 ((i : Nat) : Int))]) (.cons rfl (.cons rfl (.cons rfl (.cons rfl (.cons rfl .nil))))) (Gx.norm (l' := [Hp.rec_ b23 [.slice a18 (cs.take (k % (cs.length + 1))).length c18, .slice a28 n c28, .slice a38 n c38, .int .i64 ((aw8 : Nat) : Int), .bool dn8]]) rfl ?_)
    refine Gx.seq ?_
    refine Gx.seq ?_
    refine Gx.region ?_
    refine Gx.val rfl rfl rfl (val_move rfl rfl) ?_
    refine Gx.val rfl rfl rfl (val_move rfl rfl) ?_
    refine Gx.val rfl rfl rfl (val_len rfl Try.underlying22 rfl (len_base hs12)) ?_
    refine Gx.val rfl rfl rfl (val_lss rfl rfl rfl) ?_
    refine Gx.done ?_
    refine Gx.thenN ?_
    refine Gx.dec rfl (fun h26 => ?_) (fun h26 => ?_)
    · refine Gx.skip ?_
      refine Gx.thenN ?_
      refine Gx.seq ?_
      refine Gx.block ?_
      refine Gx.seq ?_
      refine Gx.region ?_
      refine Gx.val rfl rfl rfl (Val.cast (val_fieldAddr rfl Try.underlying26 rfl Try.ty23 rfl rfl) (v' := ptr b6 0) rfl) ?_
      refine Gx.val rfl rfl rfl (val_load rfl Try.ty23 rfl rfl (cell_old hb17 hc18)) ?_
      refine Gx.val rfl rfl rfl (val_move rfl rfl) ?_
      obtain ⟨x27, hx27⟩ := get_of_lt (xs := ks1) (k := i) (by omega)
      refine Gx.val rfl rfl rfl (val_ixa rfl Try.underlying23 Try.ty27 rfl rfl (j := i) (rfl) (reach_base hs13 hx27)) ?_
      refine Gx.val rfl rfl rfl (val_load rfl Try.ty27 rfl rfl (cell_base (i := 0) hs13 hx27 rfl)) ?_
      refine Gx.val rfl rfl rfl (val_eql rfl rfl rfl) ?_
      refine Gx.done ?_
      refine Gx.thenN ?_
      refine Gx.dec rfl (fun h28 => ?_) (fun h28 => ?_)
      · refine Gx.seq ?_
        refine Gx.region ?_
        refine Gx.val rfl rfl rfl (val_assign rfl rfl) ?_
        refine Gx.done ?_
        refine Gx.thenN ?_
        refine Gx.ret ?_
        refine Gx.blkR ?_
        refine Gx.thenR ?_
        refine Gx.thenR ?_
        refine Gx.blkR ?_
        refine Gx.thenR ?_
        refine Gx.ret1B hW11 Try.results5 rfl ?_
        exact absurd (by assumption) (((front hF8 hF1 hat).2 (show dn8 = true by simp_all)).2 _ _ hi0 hx27)
      · refine Gx.skip ?_
        refine Gx.blkN ?_
        refine Gx.thenN ?_
        refine Gx.region ?_
        refine Gx.val rfl rfl rfl (val_move rfl rfl) ?_
        refine Gx.val rfl rfl rfl (val_add rfl rfl rfl (r := ((i + 1 : Nat) : Int)) (w64 (by omega) (by omega))) ?_
        refine Gx.val rfl rfl rfl (val_assign rfl rfl) ?_
        refine Gx.done ?_
        refine Gx.thenN ?_
        exact Gx.round (i + 1) ⟨by omega, by omega⟩ (by omega) ((.cons rfl (.cons rfl (.cons rfl (.cons rfl (.cons rfl .nil)))))) rfl
    · refine Gx.exit ?_
      refine Gx.thenE ?_
      refine Gx.thenE ?_
      refine Gx.blkE ?_
      refine Gx.thenN ?_
      refine Gx.seq ?_
      refine Gx.region ?_
      refine Gx.val rfl rfl rfl (Val.cast (val_fieldAddr rfl Try.underlying26 rfl Try.ty4 rfl rfl) (v' := ptr b6 4) rfl) ?_
      refine Gx.val rfl rfl rfl (val_load rfl Try.ty4 rfl rfl (cell_old hb17 hc22)) ?_
      refine Gx.val rfl rfl rfl (val_move rfl rfl) ?_
      refine Gx.casesB (t := 80) rfl (fun h29 => ?_) (fun h29 => ?_)
      · refine Gx.valg rfl rfl rfl rfl rfl (Val.cast (val_fieldAddr rfl Try.underlying26 rfl Try.ty3 rfl rfl) (v' := ptr b6 3) rfl) ?_
        refine Gx.valg rfl rfl rfl rfl rfl (val_load rfl Try.ty3 rfl rfl (cell_old hb17 hc21)) ?_
        refine Gx.valg rfl rfl rfl rfl rfl (val_eql rfl rfl rfl) ?_
        refine Gx.val rfl rfl rfl (val_pickT rfl rfl rfl) ?_
        refine Gx.val rfl rfl rfl (val_assign rfl rfl) ?_
        refine Gx.done ?_
        refine Gx.thenN ?_
        refine Gx.ret ?_
        refine Gx.ret1B hW11 Try.results5 rfl ?_
        exact congrArg Value.bool (decide_eq_true (by have := hF1.away ((front hF8 hF1 hat).2 (show dn8 = true by simp_all)).1; omega))
      · refine Gx.skipg rfl rfl rfl rfl rfl rfl ?_
        refine Gx.skipg rfl rfl rfl rfl rfl rfl ?_
        refine Gx.skipg rfl rfl rfl rfl rfl rfl ?_
        refine Gx.val rfl rfl rfl (val_pickF rfl rfl rfl) ?_
        refine Gx.val rfl rfl rfl (val_assign rfl rfl) ?_
        refine Gx.done ?_
        refine Gx.thenN ?_
        refine Gx.ret ?_
        refine Gx.ret1B hW11 Try.results5 rfl ?_
        have := ((front hF8 hF1 hat).2 (show dn8 = true by simp_all)).1; simp_all

theorem front_any (n : Int) (sv : Value) (cs : List Cm) (k : Int) (hk0 : 0 ≤ k) (hk : k < 256) (W : World) (hs : SlS FC 3 W sv cs) : Calls Try.prog 5 #[.int .i64 n, sv, .int .u8 k] W fun e w' => e = .returned (.bool true) ∧ Below W.heap.size W w' := by
  obtain ⟨j, rfl⟩ := Int.eq_ofNat_of_zero_le hk0
  by_cases h : 1 ≤ n ∧ n ≤ 6 ∧ cs.length ≤ 120
  · obtain ⟨m, rfl⟩ := Int.eq_ofNat_of_zero_le (show 0 ≤ n by omega)
    exact front_in (by omega) hs (by omega) (by omega) (by omega)
  · exact front_out (by omega) hs (by omega)

end Go.Proofs.Ytgnpngiecnkfiaa
