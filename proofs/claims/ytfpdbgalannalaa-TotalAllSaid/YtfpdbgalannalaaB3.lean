/- Nobody hears more than it was told. The walk. No condition. -/
import Derived.Test.YtfpdbgalannalaaB1
import Derived.Test.YtfpdbgalannalaaM4
namespace Go.Proofs.Ytfpdbgalannalaa
open Go.RowKit
set_option linter.unusedVariables false
set_option linter.unusedSimpArgs false
set_option maxRecDepth 100000

theorem sent_any {W : World} {sv kv : Value} {cs : List Mv} {ks : List Int} (hs : SlS FM 3 W sv cs) (hc : SlS FZ 1 W kv ks) (hlen : ks.length = cs.length) (hcl : cs.length ≤ 120) :
    Calls Try.prog 10 #[sv, kv] W fun e w' => ∃ v, e = .returned v ∧ (∃ (z : Value) (xs : List Nat), v = z ∧ SlS FN 1 w' z xs ∧ xs.length = hitB sndB cs ks cs.length) ∧ Below W.heap.size W w' := by
  refine calls_some (S := fun v l => ∃ (z : Value) (xs : List Nat), v = z ∧ l = [Hp.own FN 1 z xs] ∧ xs.length = hitB sndB cs ks cs.length) (Gx.enter (l := []) Try.func10 rfl Try.ntmps10 rfl (Sat.start W) ?_) ?_
  refine Gx.know (m' := [(0, sv), (1, kv)]) (.cons rfl (.cons rfl .nil)) ?_
  refine Gx.seq ?_
  refine Gx.region ?_
  refine Gx.val rfl rfl rfl (val_assign rfl rfl) ?_
  refine Gx.done ?_
  refine Gx.thenN ?_
  refine Gx.seq ?_
  refine Gx.region ?_
  refine Gx.val rfl rfl rfl (val_assign rfl rfl) ?_
  refine Gx.done ?_
  refine Gx.thenN ?_
  refine Gx.seq ?_
  refine Gx.seq ?_
  refine Gx.ownNil FN 1 ?_
  refine Gx.region ?_
  refine Gx.val rfl rfl rfl (val_move rfl rfl) ?_
  refine Gx.val rfl rfl rfl (val_len rfl Try.underlying22 rfl (len_base hs)) ?_
  refine Gx.val rfl rfl rfl (val_move rfl rfl) ?_
  refine Gx.done ?_
  refine Gx.thenN ?_
  refine Gx.block ?_
  refine Gx.loop (ι := Nat × Value × (List Nat)) (fun ξ => (ξ.1 ≤ cs.length) ∧ (IsS ξ.2.1) ∧ (ξ.2.2.length = hitB sndB cs ks ξ.1)) (fun ξ => [(0, sv), (1, kv), (5, ξ.2.1), (8, sv), (9, .int .i64 ((cs.length : Nat) : Int)), (10, .int .i64 ((ξ.1 : Nat) : Int))]) (fun ξ => [Hp.own FN 1 ξ.2.1 ξ.2.2]) (fun ξ => cs.length - ξ.1) (0, (.slice none 0 0), []) ⟨by first | omega | (dsimp only; omega), ⟨none, 0, 0, rfl⟩, rfl⟩ ((.cons rfl (.cons rfl (.cons rfl (.cons rfl (.cons rfl (.cons rfl .nil))))))) rfl ?_
  rintro ⟨i, lv, xs⟩ ⟨hi, hil, hxl⟩
  dsimp only at hi hil hxl
  refine Gx.know (m' := [(0, sv), (1, kv), (5, lv), (8, sv), (9, .int .i64 ((cs.length : Nat) : Int)), (10, .int .i64 ((i : Nat) : Int))]) (.cons rfl (.cons rfl (.cons rfl (.cons rfl (.cons rfl (.cons rfl .nil)))))) (Gx.norm (l' := [Hp.own FN 1 lv xs]) rfl ?_)
  have hbl := hitB_le sndB cs ks i
  refine Gx.seq ?_
  refine Gx.region ?_
  refine Gx.val rfl rfl rfl (val_lss rfl rfl rfl) ?_
  refine Gx.done ?_
  refine Gx.thenN ?_
  refine Gx.seq ?_
  refine Gx.dec rfl (fun h1 => ?_) (fun h1 => ?_)
  · refine Gx.skip ?_
    refine Gx.thenN ?_
    refine Gx.seq ?_
    refine Gx.block ?_
    refine Gx.seq ?_
    refine Gx.region ?_
    refine Gx.val rfl rfl rfl (val_move rfl rfl) ?_
    obtain ⟨x2, hx2⟩ := get_of_lt (xs := cs) (k := i) (by omega)
    refine Gx.val rfl rfl rfl (val_ixa rfl Try.underlying22 Try.ty36 rfl rfl (j := i) (rfl) (reach_base hs hx2)) ?_
    refine Gx.val rfl rfl rfl (Val.cast (val_loadA rfl Try.ty36 rfl rfl rfl (cells_base hs hx2)) (v' := .agg #[.int .i64 x2.kind, .int .i64 x2.who, .int .i64 x2.msg]) rfl) ?_
    refine Gx.eff rfl rfl rfl (eff_alloc rfl Try.ty36 (vs := [.int .i64 0, .int .i64 0, .int .i64 0]) rfl) ?_
    rintro _ _ ⟨b3, rfl, rfl⟩
    refine Gx.val rfl rfl rfl (val_assign rfl rfl) ?_
    refine Gx.eff0 rfl rfl (eff_store rfl Try.ty36 rfl rfl (us := [.int .i64 x2.kind, .int .i64 x2.who, .int .i64 x2.msg]) rfl rfl rfl (k := 0) rfl (rfl) (vs' := [.int .i64 x2.kind, .int .i64 x2.who, .int .i64 x2.msg]) (rfl) (l' := [Hp.rec_ b3 [.int .i64 x2.kind, .int .i64 x2.who, .int .i64 x2.msg], Hp.own FN 1 lv xs]) rfl) ?_
    rintro _ _ rfl
    refine Gx.done ?_
    refine Gx.thenN ?_
    refine Gx.seq ?_
    refine Gx.region ?_
    refine Gx.val rfl rfl rfl (Val.cast (val_fieldAddr rfl Try.underlying36 rfl Try.ty3 rfl rfl) (v' := ptr b3 0) rfl) ?_
    refine Gx.val rfl rfl rfl (val_load rfl Try.ty3 rfl rfl (cell_rec (k := 0) rfl rfl)) ?_
    refine Gx.val rfl rfl rfl (val_eql rfl rfl rfl) ?_
    refine Gx.val rfl rfl rfl (val_move rfl rfl) ?_
    refine Gx.cases (t := 18) rfl (fun h4 => ?_) (fun h4 => ?_)
    · refine Gx.valg rfl rfl rfl rfl rfl (val_move rfl rfl) ?_
      refine Gx.valg rfl rfl rfl rfl rfl (val_move rfl rfl) ?_
      obtain ⟨x5, hx5⟩ := get_of_lt (xs := ks) (k := i) (by omega)
      refine Gx.valg rfl rfl rfl rfl rfl (val_ixa rfl Try.underlying23 Try.ty27 rfl rfl (j := i) (rfl) (reach_base hc hx5)) ?_
      refine Gx.valg rfl rfl rfl rfl rfl (val_load rfl Try.ty27 rfl rfl (cell_base (i := 0) hc hx5 rfl)) ?_
      refine Gx.valg rfl rfl rfl rfl rfl (val_eql rfl rfl rfl) ?_
      refine Gx.val rfl rfl rfl (val_pickT rfl rfl rfl) ?_
      refine Gx.done ?_
      refine Gx.thenN ?_
      refine Gx.dec rfl (fun h6 => ?_) (fun h6 => ?_)
      · refine Gx.region ?_
        refine Gx.val rfl rfl rfl (val_move rfl rfl) ?_
        refine Gx.val rfl rfl rfl (val_move rfl rfl) ?_
        refine Gx.eff rfl rfl rfl (eff_buildSlice rfl (qs := [(0, .int .i64 ((i : Nat) : Int))]) rfl rfl (cs := #[.int .i64 ((i : Nat) : Int)]) (vs := [.int .i64 ((i : Nat) : Int)]) (E := 3) rfl (fun w => by first | (go_simp; done) | (go_simp; rfl))) ?_
        rintro _ _ ⟨b7, rfl, rfl⟩
        refine Gx.eff rfl rfl rfl (eff_push (r := i) rfl Try.eN FN_len FN_one rfl rfl (k := 0) rfl rfl (k' := 1) rfl (by omega) (by omega)) ?_
        rintro v8 _ ⟨hiv8, rfl⟩
        refine Gx.norm (l' := [Hp.rec_ b3 [.int .i64 x2.kind, .int .i64 x2.who, .int .i64 x2.msg], Hp.own FN 1 v8 (xs ++ [i])]) rfl ?_
        refine Gx.val rfl rfl rfl (val_assign rfl rfl) ?_
        refine Gx.done ?_
        refine Gx.blkN ?_
        refine Gx.thenN ?_
        refine Gx.region ?_
        refine Gx.val rfl rfl rfl (val_add rfl rfl rfl (r := ((i + 1 : Nat) : Int)) (w64 (by omega) (by omega))) ?_
        refine Gx.val rfl rfl rfl (val_move rfl rfl) ?_
        refine Gx.done ?_
        refine Gx.thenN ?_
        refine Gx.drop 0 rfl ?_
        skip
        exact Gx.round (i + 1, v8, (xs ++ [i])) ⟨by first | omega | (dsimp only; omega), hiv8, by rw [hitB_succ hx2 hx5]; rw [show sndB x2 x5 = true from decide_eq_true ⟨by omega, by omega⟩, if_pos rfl]; simp [hxl]⟩ (by first | omega | (dsimp only; omega)) ((.cons rfl (.cons rfl (.cons rfl (.cons rfl (.cons rfl (.cons rfl .nil))))))) rfl
      · refine Gx.skip ?_
        refine Gx.blkN ?_
        refine Gx.thenN ?_
        refine Gx.region ?_
        refine Gx.val rfl rfl rfl (val_add rfl rfl rfl (r := ((i + 1 : Nat) : Int)) (w64 (by omega) (by omega))) ?_
        refine Gx.val rfl rfl rfl (val_move rfl rfl) ?_
        refine Gx.done ?_
        refine Gx.thenN ?_
        refine Gx.drop 0 rfl ?_
        skip
        exact Gx.round (i + 1, lv, xs) ⟨by first | omega | (dsimp only; omega), hil, by rw [hitB_succ hx2 hx5]; rw [show sndB x2 x5 = false from decide_eq_false (fun h => by have := h.1; have := h.2; omega)]; exact hxl⟩ (by first | omega | (dsimp only; omega)) ((.cons rfl (.cons rfl (.cons rfl (.cons rfl (.cons rfl (.cons rfl .nil))))))) rfl
    · refine Gx.skipg rfl rfl rfl rfl rfl rfl ?_
      refine Gx.skipg rfl rfl rfl rfl rfl rfl ?_
      refine Gx.skipg rfl rfl rfl rfl rfl rfl ?_
      refine Gx.skipg rfl rfl rfl rfl rfl rfl ?_
      refine Gx.skipg rfl rfl rfl rfl rfl rfl ?_
      refine Gx.val rfl rfl rfl (val_pickF rfl rfl rfl) ?_
      refine Gx.done ?_
      refine Gx.thenN ?_
      refine Gx.f rfl ?_
      refine Gx.skip ?_
      refine Gx.blkN ?_
      refine Gx.thenN ?_
      refine Gx.region ?_
      refine Gx.val rfl rfl rfl (val_add rfl rfl rfl (r := ((i + 1 : Nat) : Int)) (w64 (by omega) (by omega))) ?_
      refine Gx.val rfl rfl rfl (val_move rfl rfl) ?_
      refine Gx.done ?_
      refine Gx.thenN ?_
      refine Gx.drop 0 rfl ?_
      obtain ⟨k7, hk7⟩ := get_of_lt (xs := ks) (k := i) (by omega)
      exact Gx.round (i + 1, lv, xs) ⟨by first | omega | (dsimp only; omega), hil, by rw [hitB_succ hx2 hk7]; rw [show sndB x2 k7 = false from decide_eq_false (fun h => by have := h.1; have := h.2; omega)]; exact hxl⟩ (by first | omega | (dsimp only; omega)) ((.cons rfl (.cons rfl (.cons rfl (.cons rfl (.cons rfl (.cons rfl .nil))))))) rfl
  · refine Gx.exit ?_
    refine Gx.thenE ?_
    refine Gx.thenE ?_
    refine Gx.blkE ?_
    refine Gx.thenN ?_
    refine Gx.seq ?_
    refine Gx.region ?_
    refine Gx.val rfl rfl rfl (val_move rfl rfl) ?_
    refine Gx.val rfl rfl rfl (val_assign rfl rfl) ?_
    refine Gx.done ?_
    refine Gx.thenN ?_
    refine Gx.ret ?_
    refine Gx.ret1 Try.results10 rfl ?_
    obtain rfl : i = cs.length := by omega
    exact ⟨_, xs, rfl, rfl, hxl⟩
  rintro v l w ⟨z, xs, rfl, rfl, h⟩ H
  have hbl := hitB_le sndB cs ks cs.length
  exact ⟨v, xs, rfl, (H.at_ (k := 0) rfl).sls (by omega), h⟩
theorem inside_yes {W : World} {va : Value} {xs : List Nat} {n : Nat} (ha : SlS FN 1 W va xs) (hall : ∀ x ∈ xs, x < n) : Calls Try.prog 13 #[.int .i64 ((n : Nat) : Int), va] W fun e w' => e = .returned (.bool true) ∧ Below W.heap.size W w' := by
  have m1 := sls_bd ha
  refine calls_pure (Gx.enter (l := []) Try.func13 rfl Try.ntmps13 rfl (Sat.start W) ?_)
  refine Gx.know (m' := [(0, .int .i64 ((n : Nat) : Int)), (1, va)]) (.cons rfl (.cons rfl .nil)) ?_
  refine Gx.seq ?_
  refine Gx.region ?_
  refine Gx.val rfl rfl rfl (val_assign rfl rfl) ?_
  refine Gx.done ?_
  refine Gx.thenN ?_
  refine Gx.seq ?_
  refine Gx.seq ?_
  refine Gx.region ?_
  refine Gx.val rfl rfl rfl (val_move rfl rfl) ?_
  refine Gx.val rfl rfl rfl (val_len rfl Try.underlying30 rfl (len_base ha)) ?_
  refine Gx.val rfl rfl rfl (val_move rfl rfl) ?_
  refine Gx.done ?_
  refine Gx.thenN ?_
  refine Gx.block ?_
  refine Gx.loop (ι := Nat) (fun ξ => (ξ ≤ xs.length)) (fun ξ => [(0, .int .i64 ((n : Nat) : Int)), (7, va), (8, .int .i64 ((xs.length : Nat) : Int)), (9, .int .i64 ((ξ : Nat) : Int))]) (fun ξ => []) (fun ξ => xs.length - ξ) 0 (by first | omega | (dsimp only; omega)) ((.cons rfl (.cons rfl (.cons rfl (.cons rfl .nil))))) rfl ?_
  rintro i hi
  refine Gx.know (m' := [(0, .int .i64 ((n : Nat) : Int)), (7, va), (8, .int .i64 ((xs.length : Nat) : Int)), (9, .int .i64 ((i : Nat) : Int))]) (.cons rfl (.cons rfl (.cons rfl (.cons rfl .nil)))) (Gx.norm (l' := []) rfl ?_)
  refine Gx.seq ?_
  refine Gx.region ?_
  refine Gx.val rfl rfl rfl (val_lss rfl rfl rfl) ?_
  refine Gx.done ?_
  refine Gx.thenN ?_
  refine Gx.seq ?_
  refine Gx.dec rfl (fun h1 => ?_) (fun h1 => ?_)
  · refine Gx.skip ?_
    refine Gx.thenN ?_
    refine Gx.seq ?_
    refine Gx.block ?_
    refine Gx.seq ?_
    refine Gx.region ?_
    obtain ⟨x2, hx2⟩ := get_of_lt (xs := xs) (k := i) (by omega)
    refine Gx.val rfl rfl rfl (val_ixa rfl Try.underlying30 Try.ty3 rfl rfl (j := i) (rfl) (reach_base ha hx2)) ?_
    refine Gx.val rfl rfl rfl (val_load rfl Try.ty3 rfl rfl (cell_base (i := 0) ha hx2 rfl)) ?_
    refine Gx.val rfl rfl rfl (val_assign rfl rfl) ?_
    refine Gx.done ?_
    refine Gx.thenN ?_
    refine Gx.seq ?_
    have hxn := hall x2 (List.mem_of_getElem? hx2)
    refine Gx.region ?_
    refine Gx.val rfl rfl rfl (val_move rfl rfl) ?_
    refine Gx.val rfl rfl rfl (val_lss rfl rfl rfl) ?_
    refine Gx.val rfl rfl rfl (val_move rfl rfl) ?_
    refine Gx.slot (t := 15) (v := .bool false) (look_decF rfl (by omega)) ?_
    refine Gx.valg rfl rfl rfl rfl rfl (val_move rfl rfl) ?_
    refine Gx.valg rfl rfl rfl rfl rfl (val_move rfl rfl) ?_
    refine Gx.valg rfl rfl rfl rfl rfl (val_geq rfl rfl rfl) ?_
    refine Gx.val rfl rfl rfl (val_pickF rfl rfl rfl) ?_
    refine Gx.done ?_
    refine Gx.thenN ?_
    refine Gx.decF rfl (by omega) ?_
    refine Gx.skip ?_
    refine Gx.blkN ?_
    refine Gx.thenN ?_
    refine Gx.region ?_
    refine Gx.val rfl rfl rfl (val_add rfl rfl rfl (r := ((i + 1 : Nat) : Int)) (w64 (by omega) (by omega))) ?_
    refine Gx.val rfl rfl rfl (val_move rfl rfl) ?_
    refine Gx.done ?_
    refine Gx.thenN ?_
    exact Gx.round (i + 1) (by first | omega | (dsimp only; omega)) (by first | omega | (dsimp only; omega)) ((.cons rfl (.cons rfl (.cons rfl (.cons rfl .nil))))) rfl
  · refine Gx.exit ?_
    refine Gx.thenE ?_
    refine Gx.thenE ?_
    refine Gx.blkE ?_
    refine Gx.thenN ?_
    refine Gx.seq ?_
    refine Gx.region ?_
    refine Gx.val rfl rfl rfl (val_assign rfl rfl) ?_
    refine Gx.done ?_
    refine Gx.thenN ?_
    refine Gx.ret ?_
    refine Gx.ret1 Try.results13 rfl ?_
    rfl

theorem told_no {W : World} {k : Int} {sv : Value} {cs : List Mv} (hs : SlS FM 3 W sv cs) (hbad : k < 1 ∨ 6 < k ∨ 120 < (cs.length : Int)) :
    Calls Try.prog 6 #[.int .i64 k, sv] W fun e w' => e = .returned (.bool true) ∧ Below W.heap.size W w' := by
  refine calls_pure (Gx.enter (l := []) Try.func6 rfl Try.ntmps6 rfl (Sat.start W) ?_)
  refine Gx.know (m' := [(0, .int .i64 k), (1, sv)]) (.cons rfl (.cons rfl .nil)) ?_
  refine Gx.seq ?_
  refine Gx.region ?_
  refine Gx.val rfl rfl rfl (val_assign rfl rfl) ?_
  refine Gx.done ?_
  refine Gx.thenN ?_
  refine Gx.seq ?_
  refine Gx.region ?_
  refine Gx.val rfl rfl rfl (val_move rfl rfl) ?_
  refine Gx.val rfl rfl rfl (val_move rfl rfl) ?_
  refine Gx.val rfl rfl rfl (val_call (vs := [.int .i64 k, sv]) rfl Try.fn7 rfl (fun w H => play_no (hs.below H.below) (by omega))) ?_
  refine Gx.val rfl rfl rfl (val_move rfl rfl) ?_
  refine Gx.val rfl rfl rfl (val_extract rfl rfl rfl) ?_
  refine Gx.val rfl rfl rfl (val_extract rfl rfl rfl) ?_
  refine Gx.eff rfl rfl rfl (eff_alloc rfl Try.ty26 (vs := [.slice none 0 0, .slice none 0 0]) rfl) ?_
  rintro _ _ ⟨b1, rfl, rfl⟩
  refine Gx.eff0 rfl rfl (eff_store rfl Try.ty26 rfl rfl (us := [.slice none 0 0, .slice none 0 0]) rfl rfl rfl (k := 0) rfl (rfl) (vs' := [.slice none 0 0, .slice none 0 0]) (rfl) (l' := [Hp.rec_ b1 [.slice none 0 0, .slice none 0 0]]) rfl) ?_
  rintro _ _ rfl
  refine Gx.val rfl rfl rfl (val_assign rfl rfl) ?_
  refine Gx.done ?_
  refine Gx.thenN ?_
  refine Gx.seq ?_
  refine Gx.seq ?_
  refine Gx.region ?_
  refine Gx.val rfl rfl rfl (val_move rfl rfl) ?_
  refine Gx.val rfl rfl rfl (Val.cast (val_neq rfl rfl rfl) (v' := .bool true) rfl) ?_
  refine Gx.done ?_
  refine Gx.thenN ?_
  refine Gx.t rfl ?_
  refine Gx.seq ?_
  refine Gx.region ?_
  refine Gx.val rfl rfl rfl (Val.cast (val_fieldAddr rfl Try.underlying26 rfl Try.ty24 rfl rfl) (v' := ptr b1 1) rfl) ?_
  refine Gx.val rfl rfl rfl (val_load rfl Try.ty24 rfl rfl (cell_rec (k := 0) rfl rfl)) ?_
  refine Gx.val rfl rfl rfl (val_len rfl Try.underlying24 rfl len_lit) ?_
  refine Gx.val rfl rfl rfl (Val.cast (val_eql rfl rfl rfl) (v' := .bool true) rfl) ?_
  refine Gx.val rfl rfl rfl (val_assign rfl rfl) ?_
  refine Gx.done ?_
  refine Gx.thenN ?_
  refine Gx.ret ?_
  refine Gx.thenR ?_
  refine Gx.ret1 Try.results6 rfl ?_
  rfl

theorem told_yes {W : World} {n : Nat} {sv : Value} {cs : List Mv} (h1n : 1 ≤ n) (h6n : n ≤ 6) (hs : SlS FM 3 W sv cs) (hcl : cs.length ≤ 120) :
    Calls Try.prog 6 #[.int .i64 ((n : Nat) : Int), sv] W fun e w' => e = .returned (.bool true) ∧ Below W.heap.size W w' := by
  have hI := (InvT.zero n).run cs (by simp [ts0]; omega)
  refine calls_pure (Gx.enter (l := []) Try.func6 rfl Try.ntmps6 rfl (Sat.start W) ?_)
  refine Gx.know (m' := [(0, .int .i64 ((n : Nat) : Int)), (1, sv)]) (.cons rfl (.cons rfl .nil)) ?_
  refine Gx.seq ?_
  refine Gx.region ?_
  refine Gx.val rfl rfl rfl (val_assign rfl rfl) ?_
  refine Gx.done ?_
  refine Gx.thenN ?_
  refine Gx.seq ?_
  refine Gx.region ?_
  refine Gx.val rfl rfl rfl (val_move rfl rfl) ?_
  refine Gx.val rfl rfl rfl (val_move rfl rfl) ?_
  refine Gx.callB rfl rfl rfl (vs := [.int .i64 ((n : Nat) : Int), sv]) rfl Try.fn7 rfl (R := fun v w' => ∃ (cv dv : Value) (vals : List Sv), v = .tuple #[.agg #[cv, dv], .int .i64 0] ∧ SlS FZ 1 w' cv (codesT (ts0 n) cs) ∧ SlS FV 1 w' dv vals ∧ vals.length = n ∧ ∀ (kw : Nat) (v : Sv), vals[kw]? = some v → SlS FN 1 w' (.slice v.a v.n v.c) (lstT (stT (ts0 n) cs) kw)) (fun w H => play_ok h1n h6n (hs.below H.below) (by omega)) ?_
  rintro _ W4 ⟨cv1, dv2, vals3, rfl, hcv1, hdv2, hldv2, hrdv2⟩ H5
  have hW6 := H5.below
  have hs7 := hs.below H5.below
  have hclcv1 : (codesT (ts0 n) cs).length = (cs).length := codesT_len ..
  obtain ⟨sa8, sn9, sc10, rfl⟩ := hcv1.isS
  obtain ⟨sa11, sn12, sc13, rfl⟩ := hdv2.isS
  refine Gx.val rfl rfl rfl (val_move rfl rfl) ?_
  refine Gx.val rfl rfl rfl (val_extract rfl rfl rfl) ?_
  refine Gx.val rfl rfl rfl (val_extract rfl rfl rfl) ?_
  refine Gx.eff rfl rfl rfl (eff_alloc rfl Try.ty26 (vs := [.slice none 0 0, .slice none 0 0]) rfl) ?_
  rintro _ _ ⟨b14, rfl, rfl⟩
  refine Gx.eff0 rfl rfl (eff_store rfl Try.ty26 rfl rfl (us := [.slice sa8 sn9 sc10, .slice sa11 sn12 sc13]) rfl rfl rfl (k := 0) rfl (rfl) (vs' := [.slice sa8 sn9 sc10, .slice sa11 sn12 sc13]) (rfl) (l' := [Hp.rec_ b14 [.slice sa8 sn9 sc10, .slice sa11 sn12 sc13]]) rfl) ?_
  rintro _ _ rfl
  refine Gx.val rfl rfl rfl (val_assign rfl rfl) ?_
  refine Gx.done ?_
  refine Gx.thenN ?_
  refine Gx.seq ?_
  refine Gx.seq ?_
  refine Gx.region ?_
  refine Gx.val rfl rfl rfl (val_move rfl rfl) ?_
  refine Gx.val rfl rfl rfl (Val.cast (val_neq rfl rfl rfl) (v' := .bool false) rfl) ?_
  refine Gx.done ?_
  refine Gx.thenN ?_
  refine Gx.f rfl ?_
  refine Gx.skip ?_
  refine Gx.thenN ?_
  refine Gx.seq ?_
  refine Gx.seq ?_
  refine Gx.region ?_
  refine Gx.val rfl rfl rfl (Val.cast (val_fieldAddr rfl Try.underlying26 rfl Try.ty24 rfl rfl) (v' := ptr b14 1) rfl) ?_
  refine Gx.val rfl rfl rfl (val_load rfl Try.ty24 rfl rfl (cell_rec (k := 0) rfl rfl)) ?_
  refine Gx.val rfl rfl rfl (val_len rfl Try.underlying24 rfl (len_base hdv2)) ?_
  refine Gx.val rfl rfl rfl (val_move rfl rfl) ?_
  refine Gx.val rfl rfl rfl (val_neq rfl rfl rfl) ?_
  refine Gx.val rfl rfl rfl (val_move rfl rfl) ?_
  refine Gx.slot (t := 29) (v := .bool false) (look_decF rfl (by omega)) ?_
  refine Gx.valg rfl rfl rfl rfl rfl (Val.cast (val_fieldAddr rfl Try.underlying26 rfl Try.ty23 rfl rfl) (v' := ptr b14 0) rfl) ?_
  refine Gx.valg rfl rfl rfl rfl rfl (val_load rfl Try.ty23 rfl rfl (cell_rec (k := 0) rfl rfl)) ?_
  refine Gx.valg rfl rfl rfl rfl rfl (val_len rfl Try.underlying23 rfl (len_base hcv1)) ?_
  refine Gx.valg rfl rfl rfl rfl rfl (val_move rfl rfl) ?_
  refine Gx.valg rfl rfl rfl rfl rfl (val_len rfl Try.underlying22 rfl (len_base hs7)) ?_
  refine Gx.valg rfl rfl rfl rfl rfl (val_neq rfl rfl rfl) ?_
  refine Gx.val rfl rfl rfl (val_pickF rfl rfl rfl) ?_
  refine Gx.done ?_
  refine Gx.thenN ?_
  refine Gx.decF rfl (by omega) ?_
  refine Gx.skip ?_
  refine Gx.thenN ?_
  refine Gx.seq ?_
  refine Gx.region ?_
  refine Gx.val rfl rfl rfl (val_move rfl rfl) ?_
  refine Gx.val rfl rfl rfl (Val.cast (val_fieldAddr rfl Try.underlying26 rfl Try.ty23 rfl rfl) (v' := ptr b14 0) rfl) ?_
  refine Gx.val rfl rfl rfl (val_load rfl Try.ty23 rfl rfl (cell_rec (k := 0) rfl rfl)) ?_
  refine Gx.callB rfl rfl rfl (vs := [sv, .slice sa8 sn9 sc10]) rfl Try.fn10 rfl (R := fun v w' => ∃ (z : Value) (xs : List Nat), v = z ∧ SlS FN 1 w' z xs ∧ xs.length = hitB sndB cs (codesT (ts0 n) cs) cs.length) (fun w H => sent_any (hs7.below H.below) (hcv1.below H.below) hclcv1 hcl) ?_
  rintro zv15 W17 ⟨zv15, sx16, rfl, hzv15, hlzv15⟩ H18
  have hW19 := hW6.trans (H18.below.mono hW6.size)
  have hs20 := hs7.below H18.below
  have hs21 := hcv1.below H18.below
  have hs22 := hdv2.below H18.below
  have hb23 := (H18.at_ (k := 0) rfl).rec_.1
  have hc24 := (H18.at_ (k := 0) rfl).cell 0 (u := .slice sa8 sn9 sc10) rfl
  have hc25 := (H18.at_ (k := 0) rfl).cell 1 (u := .slice sa11 sn12 sc13) rfl
  have hr1 : ∀ (kw : Nat) (v : Sv), vals3[kw]? = some v → SlS FN 1 W17 (.slice v.a v.n v.c) (lstT (stT (ts0 n) cs) kw) := fun kw v h => (hrdv2 kw v h).below H18.below
  have hsm : sx16.length = (stT (ts0 n) cs).many := by rw [hlzv15]; have h7 := sent_many (s := ts0 n) (cs := cs) cs.length (Nat.le_refl _); rw [List.take_length] at h7; rw [h7]; simp [ts0]
  refine Gx.val rfl rfl rfl (val_len rfl Try.underlying30 rfl (len_base hzv15)) ?_
  refine Gx.val rfl rfl rfl (val_assign rfl rfl) ?_
  refine Gx.done ?_
  refine Gx.thenN ?_
  refine Gx.seq ?_
  refine Gx.seq ?_
  refine Gx.region ?_
  refine Gx.val rfl rfl rfl (val_assign rfl rfl) ?_
  refine Gx.done ?_
  refine Gx.thenN ?_
  refine Gx.block ?_
  refine Gx.loop (ι := Nat) (fun ξ => (ξ ≤ n)) (fun ξ => [(0, .int .i64 ((n : Nat) : Int)), (1, sv), (5, ptr b14 0), (7, .int .i64 ((sx16.length : Nat) : Int)), (8, .int .i64 ((ξ : Nat) : Int))]) (fun ξ => []) (fun ξ => n - ξ) 0 (by first | omega | (dsimp only; omega)) ((.cons rfl (.cons rfl (.cons rfl (.cons rfl (.cons rfl .nil)))))) rfl ?_
  rintro i hi
  refine Gx.know (m' := [(0, .int .i64 ((n : Nat) : Int)), (1, sv), (5, ptr b14 0), (7, .int .i64 ((sx16.length : Nat) : Int)), (8, .int .i64 ((i : Nat) : Int))]) (.cons rfl (.cons rfl (.cons rfl (.cons rfl (.cons rfl .nil))))) (Gx.norm (l' := []) rfl ?_)
  refine Gx.seq ?_
  refine Gx.seq ?_
  refine Gx.region ?_
  refine Gx.val rfl rfl rfl (val_move rfl rfl) ?_
  refine Gx.val rfl rfl rfl (val_move rfl rfl) ?_
  refine Gx.val rfl rfl rfl (val_lss rfl rfl rfl) ?_
  refine Gx.done ?_
  refine Gx.thenN ?_
  refine Gx.dec rfl (fun h26 => ?_) (fun h26 => ?_)
  · refine Gx.skip ?_
    refine Gx.thenN ?_
    refine Gx.seq ?_
    refine Gx.block ?_
    refine Gx.seq ?_
    refine Gx.region ?_
    refine Gx.val rfl rfl rfl (val_assign rfl rfl) ?_
    refine Gx.done ?_
    refine Gx.thenN ?_
    refine Gx.seq ?_
    refine Gx.seq ?_
    refine Gx.region ?_
    refine Gx.val rfl rfl rfl (val_move rfl rfl) ?_
    refine Gx.val rfl rfl rfl (val_len rfl Try.underlying22 rfl (len_base hs20)) ?_
    refine Gx.val rfl rfl rfl (val_move rfl rfl) ?_
    refine Gx.done ?_
    refine Gx.thenN ?_
    refine Gx.block ?_
    refine Gx.loop (ι := Nat × Nat) (fun ξ => (ξ.1 ≤ cs.length) ∧ (ξ.2 = hitB (tB i) cs (codesT (ts0 n) cs) ξ.1)) (fun ξ => [(0, .int .i64 ((n : Nat) : Int)), (1, sv), (5, ptr b14 0), (7, .int .i64 ((sx16.length : Nat) : Int)), (8, .int .i64 ((i : Nat) : Int)), (47, sv), (48, .int .i64 ((cs.length : Nat) : Int)), (49, .int .i64 ((ξ.1 : Nat) : Int)), (9, .int .i64 ((ξ.2 : Nat) : Int))]) (fun ξ => []) (fun ξ => cs.length - ξ.1) (0, 0) ⟨by first | omega | (dsimp only; omega), rfl⟩ ((.cons rfl (.cons rfl (.cons rfl (.cons rfl (.cons rfl (.cons rfl (.cons rfl (.cons rfl (.cons rfl .nil)))))))))) rfl ?_
    rintro ⟨j, td⟩ ⟨hj, htd⟩
    dsimp only at hj htd
    refine Gx.know (m' := [(0, .int .i64 ((n : Nat) : Int)), (1, sv), (5, ptr b14 0), (7, .int .i64 ((sx16.length : Nat) : Int)), (8, .int .i64 ((i : Nat) : Int)), (47, sv), (48, .int .i64 ((cs.length : Nat) : Int)), (49, .int .i64 ((j : Nat) : Int)), (9, .int .i64 ((td : Nat) : Int))]) (.cons rfl (.cons rfl (.cons rfl (.cons rfl (.cons rfl (.cons rfl (.cons rfl (.cons rfl (.cons rfl .nil))))))))) (Gx.norm (l' := []) rfl ?_)
    have htl := hitB_le (tB i) cs (codesT (ts0 n) cs) j
    refine Gx.seq ?_
    refine Gx.region ?_
    refine Gx.val rfl rfl rfl (val_lss rfl rfl rfl) ?_
    refine Gx.done ?_
    refine Gx.thenN ?_
    refine Gx.seq ?_
    refine Gx.dec rfl (fun h27 => ?_) (fun h27 => ?_)
    · refine Gx.skip ?_
      refine Gx.thenN ?_
      refine Gx.seq ?_
      refine Gx.block ?_
      refine Gx.seq ?_
      refine Gx.region ?_
      refine Gx.val rfl rfl rfl (val_move rfl rfl) ?_
      obtain ⟨x28, hx28⟩ := get_of_lt (xs := cs) (k := j) (by omega)
      refine Gx.val rfl rfl rfl (val_ixa rfl Try.underlying22 Try.ty36 rfl rfl (j := j) (rfl) (reach_base hs20 hx28)) ?_
      refine Gx.val rfl rfl rfl (Val.cast (val_loadA rfl Try.ty36 rfl rfl rfl (cells_base hs20 hx28)) (v' := .agg #[.int .i64 x28.kind, .int .i64 x28.who, .int .i64 x28.msg]) rfl) ?_
      refine Gx.eff rfl rfl rfl (eff_alloc rfl Try.ty36 (vs := [.int .i64 0, .int .i64 0, .int .i64 0]) rfl) ?_
      rintro _ _ ⟨b29, rfl, rfl⟩
      refine Gx.val rfl rfl rfl (val_assign rfl rfl) ?_
      refine Gx.eff0 rfl rfl (eff_store rfl Try.ty36 rfl rfl (us := [.int .i64 x28.kind, .int .i64 x28.who, .int .i64 x28.msg]) rfl rfl rfl (k := 0) rfl (rfl) (vs' := [.int .i64 x28.kind, .int .i64 x28.who, .int .i64 x28.msg]) (rfl) (l' := [Hp.rec_ b29 [.int .i64 x28.kind, .int .i64 x28.who, .int .i64 x28.msg]]) rfl) ?_
      rintro _ _ rfl
      refine Gx.done ?_
      refine Gx.thenN ?_
      refine Gx.seq ?_
      refine Gx.region ?_
      refine Gx.val rfl rfl rfl (Val.cast (val_fieldAddr rfl Try.underlying36 rfl Try.ty3 rfl rfl) (v' := ptr b29 0) rfl) ?_
      refine Gx.val rfl rfl rfl (val_load rfl Try.ty3 rfl rfl (cell_rec (k := 0) rfl rfl)) ?_
      refine Gx.val rfl rfl rfl (val_eql rfl rfl rfl) ?_
      refine Gx.val rfl rfl rfl (val_move rfl rfl) ?_
      refine Gx.cases (t := 57) rfl (fun h30 => ?_) (fun h30 => ?_)
      · refine Gx.valg rfl rfl rfl rfl rfl (Val.cast (val_fieldAddr rfl Try.underlying36 rfl Try.ty3 rfl rfl) (v' := ptr b29 1) rfl) ?_
        refine Gx.valg rfl rfl rfl rfl rfl (val_load rfl Try.ty3 rfl rfl (cell_rec (k := 0) rfl rfl)) ?_
        refine Gx.valg rfl rfl rfl rfl rfl (val_move rfl rfl) ?_
        refine Gx.valg rfl rfl rfl rfl rfl (val_eql rfl rfl rfl) ?_
        refine Gx.val rfl rfl rfl (val_pickT rfl rfl rfl) ?_
        refine Gx.val rfl rfl rfl (val_move rfl rfl) ?_
        refine Gx.cases (t := 63) rfl (fun h31 => ?_) (fun h31 => ?_)
        · refine Gx.valg rfl rfl rfl rfl rfl (Val.cast (val_fieldAddr rfl Try.underlying26 rfl Try.ty23 rfl rfl) (v' := ptr b14 0) rfl) ?_
          refine Gx.valg rfl rfl rfl rfl rfl (val_load rfl Try.ty23 rfl rfl (cell_old hb23 hc24)) ?_
          refine Gx.valg rfl rfl rfl rfl rfl (val_move rfl rfl) ?_
          obtain ⟨x32, hx32⟩ := get_of_lt (xs := (codesT (ts0 n) cs)) (k := j) (by omega)
          refine Gx.valg rfl rfl rfl rfl rfl (val_ixa rfl Try.underlying23 Try.ty27 rfl rfl (j := j) (rfl) (reach_base hs21 hx32)) ?_
          refine Gx.valg rfl rfl rfl rfl rfl (val_load rfl Try.ty27 rfl rfl (cell_base (i := 0) hs21 hx32 rfl)) ?_
          refine Gx.valg rfl rfl rfl rfl rfl (val_eql rfl rfl rfl) ?_
          refine Gx.val rfl rfl rfl (val_pickT rfl rfl rfl) ?_
          refine Gx.done ?_
          refine Gx.thenN ?_
          refine Gx.dec rfl (fun h33 => ?_) (fun h33 => ?_)
          · refine Gx.region ?_
            refine Gx.val rfl rfl rfl (val_move rfl rfl) ?_
            refine Gx.val rfl rfl rfl (val_add rfl rfl rfl (r := ((td + 1 : Nat) : Int)) (w64 (by omega) (by omega))) ?_
            refine Gx.val rfl rfl rfl (val_assign rfl rfl) ?_
            refine Gx.done ?_
            refine Gx.blkN ?_
            refine Gx.thenN ?_
            refine Gx.region ?_
            refine Gx.val rfl rfl rfl (val_add rfl rfl rfl (r := ((j + 1 : Nat) : Int)) (w64 (by omega) (by omega))) ?_
            refine Gx.val rfl rfl rfl (val_move rfl rfl) ?_
            refine Gx.done ?_
            refine Gx.thenN ?_
            refine Gx.drop 0 rfl ?_
            skip
            exact Gx.round (j + 1, td + 1) ⟨by first | omega | (dsimp only; omega), by rw [hitB_succ hx28 hx32, ← htd]; rw [show tB i x28 x32 = true from decide_eq_true ⟨by omega, by omega, by omega⟩, if_pos rfl]⟩ (by first | omega | (dsimp only; omega)) ((.cons rfl (.cons rfl (.cons rfl (.cons rfl (.cons rfl (.cons rfl (.cons rfl (.cons rfl (.cons rfl .nil)))))))))) rfl
          · refine Gx.skip ?_
            refine Gx.blkN ?_
            refine Gx.thenN ?_
            refine Gx.region ?_
            refine Gx.val rfl rfl rfl (val_add rfl rfl rfl (r := ((j + 1 : Nat) : Int)) (w64 (by omega) (by omega))) ?_
            refine Gx.val rfl rfl rfl (val_move rfl rfl) ?_
            refine Gx.done ?_
            refine Gx.thenN ?_
            refine Gx.drop 0 rfl ?_
            skip
            exact Gx.round (j + 1, td) ⟨by first | omega | (dsimp only; omega), by rw [hitB_succ hx28 hx32, ← htd]; rw [show tB i x28 x32 = false from decide_eq_false (fun h => by have := h.1; have := h.2.1; have := h.2.2; omega)]; rfl⟩ (by first | omega | (dsimp only; omega)) ((.cons rfl (.cons rfl (.cons rfl (.cons rfl (.cons rfl (.cons rfl (.cons rfl (.cons rfl (.cons rfl .nil)))))))))) rfl
        · refine Gx.skipg rfl rfl rfl rfl rfl rfl ?_
          refine Gx.skipg rfl rfl rfl rfl rfl rfl ?_
          refine Gx.skipg rfl rfl rfl rfl rfl rfl ?_
          refine Gx.skipg rfl rfl rfl rfl rfl rfl ?_
          refine Gx.skipg rfl rfl rfl rfl rfl rfl ?_
          refine Gx.skipg rfl rfl rfl rfl rfl rfl ?_
          refine Gx.val rfl rfl rfl (val_pickF rfl rfl rfl) ?_
          refine Gx.done ?_
          refine Gx.thenN ?_
          refine Gx.f rfl ?_
          refine Gx.skip ?_
          refine Gx.blkN ?_
          refine Gx.thenN ?_
          refine Gx.region ?_
          refine Gx.val rfl rfl rfl (val_add rfl rfl rfl (r := ((j + 1 : Nat) : Int)) (w64 (by omega) (by omega))) ?_
          refine Gx.val rfl rfl rfl (val_move rfl rfl) ?_
          refine Gx.done ?_
          refine Gx.thenN ?_
          refine Gx.drop 0 rfl ?_
          obtain ⟨k7, hk7⟩ := get_of_lt (xs := (codesT (ts0 n) cs)) (k := j) (by omega)
          exact Gx.round (j + 1, td) ⟨by first | omega | (dsimp only; omega), by rw [hitB_succ hx28 hk7, ← htd]; rw [show tB i x28 k7 = false from decide_eq_false (fun h => by have := h.1; have := h.2.1; have := h.2.2; omega)]; rfl⟩ (by first | omega | (dsimp only; omega)) ((.cons rfl (.cons rfl (.cons rfl (.cons rfl (.cons rfl (.cons rfl (.cons rfl (.cons rfl (.cons rfl .nil)))))))))) rfl
      · refine Gx.skipg rfl rfl rfl rfl rfl rfl ?_
        refine Gx.skipg rfl rfl rfl rfl rfl rfl ?_
        refine Gx.skipg rfl rfl rfl rfl rfl rfl ?_
        refine Gx.skipg rfl rfl rfl rfl rfl rfl ?_
        refine Gx.val rfl rfl rfl (val_pickF rfl rfl rfl) ?_
        refine Gx.val rfl rfl rfl (val_move rfl rfl) ?_
        refine Gx.skipg rfl rfl rfl rfl rfl rfl ?_
        refine Gx.skipg rfl rfl rfl rfl rfl rfl ?_
        refine Gx.skipg rfl rfl rfl rfl rfl rfl ?_
        refine Gx.skipg rfl rfl rfl rfl rfl rfl ?_
        refine Gx.skipg rfl rfl rfl rfl rfl rfl ?_
        refine Gx.skipg rfl rfl rfl rfl rfl rfl ?_
        refine Gx.val rfl rfl rfl (val_pickF rfl rfl rfl) ?_
        refine Gx.done ?_
        refine Gx.thenN ?_
        refine Gx.f rfl ?_
        refine Gx.skip ?_
        refine Gx.blkN ?_
        refine Gx.thenN ?_
        refine Gx.region ?_
        refine Gx.val rfl rfl rfl (val_add rfl rfl rfl (r := ((j + 1 : Nat) : Int)) (w64 (by omega) (by omega))) ?_
        refine Gx.val rfl rfl rfl (val_move rfl rfl) ?_
        refine Gx.done ?_
        refine Gx.thenN ?_
        refine Gx.drop 0 rfl ?_
        obtain ⟨k7, hk7⟩ := get_of_lt (xs := (codesT (ts0 n) cs)) (k := j) (by omega)
        exact Gx.round (j + 1, td) ⟨by first | omega | (dsimp only; omega), by rw [hitB_succ hx28 hk7, ← htd]; rw [show tB i x28 k7 = false from decide_eq_false (fun h => by have := h.1; have := h.2.1; have := h.2.2; omega)]; rfl⟩ (by first | omega | (dsimp only; omega)) ((.cons rfl (.cons rfl (.cons rfl (.cons rfl (.cons rfl (.cons rfl (.cons rfl (.cons rfl (.cons rfl .nil)))))))))) rfl
    · refine Gx.exit ?_
      refine Gx.thenE ?_
      refine Gx.thenE ?_
      refine Gx.blkE ?_
      refine Gx.thenN ?_
      refine Gx.seq ?_
      obtain rfl : j = cs.length := by omega
      obtain ⟨x, hx⟩ := get_of_lt (xs := vals3) (k := i) (by omega)
      have hrx := hr1 i x hx
      have htl2 := told_len (cs := cs) (i := i) h6n (by omega) hcl
      refine Gx.region ?_
      refine Gx.val rfl rfl rfl (Val.cast (val_fieldAddr rfl Try.underlying26 rfl Try.ty24 rfl rfl) (v' := ptr b14 1) rfl) ?_
      refine Gx.val rfl rfl rfl (val_load rfl Try.ty24 rfl rfl (cell_old hb23 hc25)) ?_
      refine Gx.val rfl rfl rfl (val_move rfl rfl) ?_
      refine Gx.val rfl rfl rfl (val_ixa rfl Try.underlying24 Try.ty30 rfl rfl (j := i) (rfl) (reach_base hs22 hx)) ?_
      refine Gx.val rfl rfl rfl (val_load rfl Try.ty30 rfl rfl (cell_base (i := 0) hs22 hx rfl)) ?_
      refine Gx.val rfl rfl rfl (val_len rfl Try.underlying30 rfl (len_base hrx)) ?_
      refine Gx.val rfl rfl rfl (val_move rfl rfl) ?_
      refine Gx.val rfl rfl rfl (val_gtr rfl rfl rfl) ?_
      refine Gx.val rfl rfl rfl (val_move rfl rfl) ?_
      refine Gx.slot (t := 82) (v := .bool false) (look_decF rfl (by omega)) ?_
      refine Gx.valg rfl rfl rfl rfl rfl (val_move rfl rfl) ?_
      refine Gx.valg rfl rfl rfl rfl rfl (Val.cast (val_fieldAddr rfl Try.underlying26 rfl Try.ty24 rfl rfl) (v' := ptr b14 1) rfl) ?_
      refine Gx.valg rfl rfl rfl rfl rfl (val_load rfl Try.ty24 rfl rfl (cell_old hb23 hc25)) ?_
      refine Gx.valg rfl rfl rfl rfl rfl (val_move rfl rfl) ?_
      refine Gx.valg rfl rfl rfl rfl rfl (val_ixa rfl Try.underlying24 Try.ty30 rfl rfl (j := i) (rfl) (reach_base hs22 hx)) ?_
      refine Gx.valg rfl rfl rfl rfl rfl (val_load rfl Try.ty30 rfl rfl (cell_base (i := 0) hs22 hx rfl)) ?_
      refine Gx.valg rfl rfl rfl rfl rfl (val_call (vs := [.int .i64 ((sx16.length : Nat) : Int), .slice x.a x.n x.c]) rfl Try.fn13 rfl (fun w H => inside_yes (hrx.below H.below) (fun m hm => by rw [hsm]; exact hI.once.2 m hm))) ?_
      refine Gx.valg rfl rfl rfl rfl rfl (Val.cast (val_not rfl rfl) (v' := .bool false) rfl) ?_
      refine Gx.val rfl rfl rfl (val_pickF rfl rfl rfl) ?_
      refine Gx.done ?_
      refine Gx.thenN ?_
      refine Gx.f rfl ?_
      refine Gx.skip ?_
      refine Gx.blkN ?_
      refine Gx.thenN ?_
      refine Gx.region ?_
      refine Gx.val rfl rfl rfl (val_move rfl rfl) ?_
      refine Gx.val rfl rfl rfl (val_add rfl rfl rfl (r := ((i + 1 : Nat) : Int)) (w64 (by omega) (by omega))) ?_
      refine Gx.val rfl rfl rfl (val_assign rfl rfl) ?_
      refine Gx.done ?_
      refine Gx.thenN ?_
      exact Gx.round (i + 1) (by first | omega | (dsimp only; omega)) (by first | omega | (dsimp only; omega)) ((.cons rfl (.cons rfl (.cons rfl (.cons rfl (.cons rfl .nil)))))) rfl
  · refine Gx.exit ?_
    refine Gx.thenE ?_
    refine Gx.thenE ?_
    refine Gx.blkE ?_
    refine Gx.thenN ?_
    refine Gx.seq ?_
    refine Gx.region ?_
    refine Gx.val rfl rfl rfl (val_assign rfl rfl) ?_
    refine Gx.done ?_
    refine Gx.thenN ?_
    refine Gx.ret ?_
    refine Gx.ret1B hW19 Try.results6 rfl ?_
    rfl

theorem told_any {W : World} {k : Int} {sv : Value} {cs : List Mv} (hs : SlS FM 3 W sv cs) : Calls Try.prog 6 #[.int .i64 k, sv] W fun e w' => e = .returned (.bool true) ∧ Below W.heap.size W w' := by
  by_cases h : k < 1 ∨ 6 < k ∨ 120 < (cs.length : Int)
  · exact told_no hs h
  · obtain ⟨n, rfl⟩ : ∃ n : Nat, k = (n : Int) := ⟨k.toNat, by omega⟩
    exact told_yes (by omega) (by omega) hs (by omega)
end Go.Proofs.Ytfpdbgalannalaa
