/- When all have come all is heard. The walk. No condition. -/
import Derived.Test.YtcjdphhofjibdaaB3
namespace Go.Proofs.Ytcjdphhofjibdaa
open Go.RowKit
set_option linter.unusedVariables false
set_option linter.unusedSimpArgs false
set_option maxRecDepth 100000

theorem all_no {W : World} {k : Int} {sv : Value} {cs : List Mv} (hs : SlS FM 3 W sv cs) (hbad : k < 1 ∨ 6 < k ∨ 120 < (cs.length : Int)) :
    Calls Try.prog 4 #[.int .i64 k, sv] W fun e w' => e = .returned (.bool true) ∧ Below W.heap.size W w' := by
  refine calls_pure (Gx.enter (l := []) Try.func4 rfl Try.ntmps4 rfl (Sat.start W) ?_)
  refine Gx.know (m' := [(0, .int .i64 k), (1, sv)]) (.cons rfl (.cons rfl .nil)) ?_
  refine Gx.seq ?_
  refine Gx.region ?_
  refine Gx.val rfl rfl rfl (val_assign rfl rfl) ?_
  refine Gx.done ?_
  refine Gx.thenN ?_
  refine Gx.seq ?_
  refine Gx.region ?_
  refine Gx.val rfl rfl rfl (val_move rfl rfl) ?_
  refine Gx.val rfl rfl rfl (val_move rfl rfl) ?_
  refine Gx.val rfl rfl rfl (val_call (vs := [.int .i64 k, sv]) rfl Try.fn7 rfl (fun w H => play_no (hs.below H.below) (by omega))) ?_
  refine Gx.val rfl rfl rfl (val_move rfl rfl) ?_
  refine Gx.val rfl rfl rfl (val_extract rfl rfl rfl) ?_
  refine Gx.val rfl rfl rfl (val_extract rfl rfl rfl) ?_
  refine Gx.eff rfl rfl rfl (eff_alloc rfl Try.ty26 (vs := [.slice none 0 0, .slice none 0 0]) rfl) ?_
  rintro _ _ ⟨b1, rfl, rfl⟩
  refine Gx.eff0 rfl rfl (eff_store rfl Try.ty26 rfl rfl (us := [.slice none 0 0, .slice none 0 0]) rfl rfl rfl (k := 0) rfl (rfl) (vs' := [.slice none 0 0, .slice none 0 0]) (rfl) (l' := [Hp.rec_ b1 [.slice none 0 0, .slice none 0 0]]) rfl) ?_
  rintro _ _ rfl
  refine Gx.val rfl rfl rfl (val_assign rfl rfl) ?_
  refine Gx.done ?_
  refine Gx.thenN ?_
  refine Gx.seq ?_
  refine Gx.seq ?_
  refine Gx.region ?_
  refine Gx.val rfl rfl rfl (val_move rfl rfl) ?_
  refine Gx.val rfl rfl rfl (Val.cast (val_neq rfl rfl rfl) (v' := .bool true) rfl) ?_
  refine Gx.val rfl rfl rfl (val_move rfl rfl) ?_
  refine Gx.skipg rfl rfl rfl rfl rfl rfl ?_
  refine Gx.skipg rfl rfl rfl rfl rfl rfl ?_
  refine Gx.skipg rfl rfl rfl rfl rfl rfl ?_
  refine Gx.skipg rfl rfl rfl rfl rfl rfl ?_
  refine Gx.skipg rfl rfl rfl rfl rfl rfl ?_
  refine Gx.skipg rfl rfl rfl rfl rfl rfl ?_
  refine Gx.val rfl rfl rfl (val_pickT rfl rfl rfl) ?_
  refine Gx.done ?_
  refine Gx.thenN ?_
  refine Gx.t rfl ?_
  refine Gx.seq ?_
  refine Gx.region ?_
  refine Gx.val rfl rfl rfl (val_move rfl rfl) ?_
  refine Gx.val rfl rfl rfl (Val.cast (val_neq rfl rfl rfl) (v' := .bool true) rfl) ?_
  refine Gx.val rfl rfl rfl (val_assign rfl rfl) ?_
  refine Gx.done ?_
  refine Gx.thenN ?_
  refine Gx.ret ?_
  refine Gx.thenR ?_
  refine Gx.ret1 Try.results4 rfl ?_
  rfl

theorem all_yes {W : World} {n : Nat} {sv : Value} {cs : List Mv} (h1n : 1 ≤ n) (h6n : n ≤ 6) (hs : SlS FM 3 W sv cs) (hcl : cs.length ≤ 120) :
    Calls Try.prog 4 #[.int .i64 ((n : Nat) : Int), sv] W fun e w' => e = .returned (.bool true) ∧ Below W.heap.size W w' := by
  have hI := (InvC.zero n).run cs
  have hbl := sndL_le cs (codesC (cs0 n) cs) cs.length
  refine calls_pure (Gx.enter (l := []) Try.func4 rfl Try.ntmps4 rfl (Sat.start W) ?_)
  refine Gx.know (m' := [(0, .int .i64 ((n : Nat) : Int)), (1, sv)]) (.cons rfl (.cons rfl .nil)) ?_
  refine Gx.seq ?_
  refine Gx.region ?_
  refine Gx.val rfl rfl rfl (val_assign rfl rfl) ?_
  refine Gx.done ?_
  refine Gx.thenN ?_
  refine Gx.seq ?_
  refine Gx.region ?_
  refine Gx.val rfl rfl rfl (val_move rfl rfl) ?_
  refine Gx.val rfl rfl rfl (val_move rfl rfl) ?_
  refine Gx.callB rfl rfl rfl (vs := [.int .i64 ((n : Nat) : Int), sv]) rfl Try.fn7 rfl (R := fun v w' => ∃ (cv dv : Value) (vals : List Sv), v = .tuple #[.agg #[cv, dv], .int .i64 0] ∧ SlS FZ 1 w' cv (codesC (cs0 n) cs) ∧ SlS FV 1 w' dv vals ∧ vals.length = n ∧ ∀ (kw : Nat) (v : Sv), vals[kw]? = some v → SlS FN 1 w' (.slice v.a v.n v.c) (lstC (stC (cs0 n) cs) kw)) (fun w H => play_ok h1n h6n (hs.below H.below) (by omega)) ?_
  rintro _ W4 ⟨cv1, dv2, vals3, rfl, hcv1, hdv2, hldv2, hrdv2⟩ H5
  have hW6 := H5.below
  have hs7 := hs.below H5.below
  have hclcv1 : (codesC (cs0 n) cs).length = (cs).length := codesC_len ..
  obtain ⟨sa8, sn9, sc10, rfl⟩ := hcv1.isS
  obtain ⟨sa11, sn12, sc13, rfl⟩ := hdv2.isS
  refine Gx.val rfl rfl rfl (val_move rfl rfl) ?_
  refine Gx.val rfl rfl rfl (val_extract rfl rfl rfl) ?_
  refine Gx.val rfl rfl rfl (val_extract rfl rfl rfl) ?_
  refine Gx.eff rfl rfl rfl (eff_alloc rfl Try.ty26 (vs := [.slice none 0 0, .slice none 0 0]) rfl) ?_
  rintro _ _ ⟨b14, rfl, rfl⟩
  refine Gx.eff0 rfl rfl (eff_store rfl Try.ty26 rfl rfl (us := [.slice sa8 sn9 sc10, .slice sa11 sn12 sc13]) rfl rfl rfl (k := 0) rfl (rfl) (vs' := [.slice sa8 sn9 sc10, .slice sa11 sn12 sc13]) (rfl) (l' := [Hp.rec_ b14 [.slice sa8 sn9 sc10, .slice sa11 sn12 sc13]]) rfl) ?_
  rintro _ _ rfl
  refine Gx.val rfl rfl rfl (val_assign rfl rfl) ?_
  refine Gx.done ?_
  refine Gx.thenN ?_
  refine Gx.seq ?_
  refine Gx.seq ?_
  refine Gx.region ?_
  refine Gx.val rfl rfl rfl (val_move rfl rfl) ?_
  refine Gx.val rfl rfl rfl (Val.cast (val_neq rfl rfl rfl) (v' := .bool false) rfl) ?_
  refine Gx.val rfl rfl rfl (val_move rfl rfl) ?_
  refine Gx.valg rfl rfl rfl rfl rfl (Val.cast (val_fieldAddr rfl Try.underlying26 rfl Try.ty23 rfl rfl) (v' := ptr b14 0) rfl) ?_
  refine Gx.valg rfl rfl rfl rfl rfl (val_load rfl Try.ty23 rfl rfl (cell_rec (k := 0) rfl rfl)) ?_
  refine Gx.valg rfl rfl rfl rfl rfl (val_len rfl Try.underlying23 rfl (len_base hcv1)) ?_
  refine Gx.valg rfl rfl rfl rfl rfl (val_move rfl rfl) ?_
  refine Gx.valg rfl rfl rfl rfl rfl (val_len rfl Try.underlying22 rfl (len_base hs7)) ?_
  refine Gx.valg rfl rfl rfl rfl rfl (val_neq rfl rfl rfl) ?_
  refine Gx.val rfl rfl rfl (val_pickF rfl rfl rfl) ?_
  refine Gx.done ?_
  refine Gx.thenN ?_
  refine Gx.decF rfl (by omega) ?_
  refine Gx.skip ?_
  refine Gx.thenN ?_
  refine Gx.seq ?_
  refine Gx.region ?_
  refine Gx.val rfl rfl rfl (val_move rfl rfl) ?_
  refine Gx.val rfl rfl rfl (Val.cast (val_fieldAddr rfl Try.underlying26 rfl Try.ty23 rfl rfl) (v' := ptr b14 0) rfl) ?_
  refine Gx.val rfl rfl rfl (val_load rfl Try.ty23 rfl rfl (cell_rec (k := 0) rfl rfl)) ?_
  refine Gx.eff rfl rfl rfl (eff_call (vs := [sv, .slice sa8 sn9 sc10]) rfl Try.fn8 rfl (fun w H => sent_any (hs7) (hcv1) hclcv1 hcl H)) ?_
  rintro sx15 l16 ⟨hisx15, hl16⟩
  refine Gx.sepEq (l' := [Hp.own FN 1 sx15 (sndL cs (codesC (cs0 n) cs) cs.length), Hp.rec_ b14 [.slice sa8 sn9 sc10, .slice sa11 sn12 sc13]]) hl16 ?_
  refine Gx.val rfl rfl rfl (val_len rfl Try.underlying30 rfl (len_own (k := 0) rfl)) ?_
  refine Gx.val rfl rfl rfl (val_assign rfl rfl) ?_
  refine Gx.done ?_
  refine Gx.thenN ?_
  refine Gx.seq ?_
  refine Gx.seq ?_
  obtain ⟨many, hmany⟩ : ∃ q, q = (sndL cs (codesC (cs0 n) cs) cs.length).length := ⟨_, rfl⟩
  refine Gx.slot (t := 7) (v := .int .i64 ((many : Nat) : Int)) (by rw [hmany] <;> rfl) ?_
  have hmm : many = (stC (cs0 n) cs).all.length := by rw [hmany, sent_fin.1]
  have hm1 : many ≤ 120 := by omega
  have hmul : n * many ≤ 6 * 120 := Nat.mul_le_mul (by omega) (by omega)
  obtain ⟨NM, hNM⟩ : ∃ q, q = n * many := ⟨_, rfl⟩
  rw [← hNM] at hmul
  refine Gx.region ?_
  refine Gx.val rfl rfl rfl (val_move rfl rfl) ?_
  refine Gx.val rfl rfl rfl (val_len rfl Try.underlying22 rfl (len_base hs7)) ?_
  refine Gx.val rfl rfl rfl (val_move rfl rfl) ?_
  refine Gx.val rfl rfl rfl (val_move rfl rfl) ?_
  refine Gx.val rfl rfl rfl (val_mul rfl rfl rfl (r := ((NM : Nat) : Int)) (by rw [hNM]; exact w64 (by rw [Int.natCast_mul]) (by omega))) ?_
  refine Gx.val rfl rfl rfl (val_add rfl rfl rfl (r := ((cs.length + NM : Nat) : Int)) (w64 (by omega) (by omega))) ?_
  refine Gx.val rfl rfl rfl (val_gtr rfl rfl rfl) ?_
  refine Gx.done ?_
  refine Gx.thenN ?_
  refine Gx.dec rfl (fun h17 => ?_) (fun h17 => ?_)
  · refine Gx.seq ?_
    refine Gx.region ?_
    refine Gx.val rfl rfl rfl (val_assign rfl rfl) ?_
    refine Gx.done ?_
    refine Gx.thenN ?_
    refine Gx.ret ?_
    refine Gx.thenR ?_
    refine Gx.ret1B hW6 Try.results4 rfl ?_
    rfl
  · refine Gx.skip ?_
    refine Gx.thenN ?_
    refine Gx.seq ?_
    refine Gx.region ?_
    refine Gx.eff rfl rfl rfl (eff_buildNil (f := FM) (sz := 3) (e := 35) rfl Try.underlying22 (fun w => by first | (go_simp; done) | (go_simp; rfl))) ?_
    rintro v18 _ ⟨hiv18, rfl⟩
    refine Gx.val rfl rfl rfl (val_move rfl rfl) ?_
    refine Gx.eff rfl rfl rfl (eff_pushAll (k := 0) (ys := cs) rfl Try.eM FM_len FM_one rfl rfl (fun w H => hs7.below H.below) rfl (by simp; omega) (by simp; omega)) ?_
    rintro v19 _ ⟨hiv19, rfl⟩
    refine Gx.norm (l' := [Hp.own FM 3 v19 cs, Hp.own FN 1 sx15 (sndL cs (codesC (cs0 n) cs) cs.length), Hp.rec_ b14 [.slice sa8 sn9 sc10, .slice sa11 sn12 sc13]]) rfl ?_
    refine Gx.val rfl rfl rfl (val_assign rfl rfl) ?_
    refine Gx.done ?_
    refine Gx.thenN ?_
    refine Gx.seq ?_
    refine Gx.seq ?_
    refine Gx.region ?_
    refine Gx.val rfl rfl rfl (val_move rfl rfl) ?_
    refine Gx.val rfl rfl rfl (val_sub rfl rfl rfl (r := (((many : Nat) : Int) - 1)) (w64 rfl (by omega))) ?_
    refine Gx.val rfl rfl rfl (val_assign rfl rfl) ?_
    refine Gx.done ?_
    refine Gx.thenN ?_
    refine Gx.block ?_
    refine Gx.norm (l' := [Hp.own FM 3 v19 (cs ++ colA n many 0), Hp.own FN 1 sx15 (sndL cs (codesC (cs0 n) cs) cs.length), Hp.rec_ b14 [.slice sa8 sn9 sc10, .slice sa11 sn12 sc13]]) (by rw [show colA n many 0 = [] from rfl, List.append_nil] <;> rfl) ?_
    refine Gx.drop 1 rfl ?_
    refine Gx.loop (ι := Nat × Int × Value) (fun ξ => (ξ.2.1 + 1 + (ξ.1 : Int) = ((many : Nat) : Int)) ∧ (ξ.1 ≤ many) ∧ (IsS ξ.2.2)) (fun ξ => [(0, .int .i64 ((n : Nat) : Int)), (5, ptr b14 0), (7, .int .i64 ((many : Nat) : Int)), (9, .int .i64 ξ.2.1), (8, ξ.2.2)]) (fun ξ => [Hp.own FM 3 ξ.2.2 (cs ++ colA n many ξ.1), Hp.rec_ b14 [.slice sa8 sn9 sc10, .slice sa11 sn12 sc13]]) (fun ξ => many - ξ.1) (0, (((many : Nat) : Int) - 1), v19) ⟨by dsimp only; omega, Nat.zero_le _, hiv19⟩ ((.cons rfl (.cons rfl (.cons rfl (.cons rfl (.cons rfl .nil)))))) rfl ?_
    rintro ⟨c9, m9, aw⟩ ⟨hm9, hc9, hib⟩
    dsimp only at hm9 hc9 hib
    refine Gx.know (m' := [(0, .int .i64 ((n : Nat) : Int)), (5, ptr b14 0), (7, .int .i64 ((many : Nat) : Int)), (9, .int .i64 m9), (8, aw)]) (.cons rfl (.cons rfl (.cons rfl (.cons rfl (.cons rfl .nil))))) (Gx.norm (l' := [Hp.own FM 3 aw (cs ++ colA n many c9), Hp.rec_ b14 [.slice sa8 sn9 sc10, .slice sa11 sn12 sc13]]) rfl ?_)
    refine Gx.seq ?_
    refine Gx.seq ?_
    refine Gx.region ?_
    refine Gx.val rfl rfl rfl (val_move rfl rfl) ?_
    refine Gx.val rfl rfl rfl (val_geq rfl rfl rfl) ?_
    refine Gx.done ?_
    refine Gx.thenN ?_
    refine Gx.dec rfl (fun h20 => ?_) (fun h20 => ?_)
    · refine Gx.skip ?_
      refine Gx.thenN ?_
      refine Gx.seq ?_
      refine Gx.block ?_
      refine Gx.seq ?_
      obtain ⟨mm, rfl⟩ := Int.eq_ofNat_of_zero_le (a := m9) (by omega)
      refine Gx.region ?_
      refine Gx.val rfl rfl rfl (val_assign rfl rfl) ?_
      refine Gx.done ?_
      refine Gx.thenN ?_
      refine Gx.block ?_
      refine Gx.norm (l' := [Hp.own FM 3 aw (cs ++ colA n many c9 ++ rowA mm 0), Hp.rec_ b14 [.slice sa8 sn9 sc10, .slice sa11 sn12 sc13]]) (by rw [show rowA mm 0 = [] from rfl, List.append_nil] <;> rfl) ?_
      refine Gx.loop (ι := Nat × Value) (fun ξ => (ξ.1 ≤ n) ∧ (IsS ξ.2)) (fun ξ => [(0, .int .i64 ((n : Nat) : Int)), (5, ptr b14 0), (7, .int .i64 ((many : Nat) : Int)), (9, .int .i64 ((mm : Nat) : Int)), (10, .int .i64 ((ξ.1 : Nat) : Int)), (8, ξ.2)]) (fun ξ => [Hp.own FM 3 ξ.2 (cs ++ colA n many c9 ++ rowA mm ξ.1), Hp.rec_ b14 [.slice sa8 sn9 sc10, .slice sa11 sn12 sc13]]) (fun ξ => n - ξ.1) (0, aw) ⟨by first | omega | (dsimp only; omega), hib⟩ ((.cons rfl (.cons rfl (.cons rfl (.cons rfl (.cons rfl (.cons rfl .nil))))))) rfl ?_
      rintro ⟨k9, ax⟩ ⟨hk9, hie⟩
      dsimp only at hk9 hie
      refine Gx.know (m' := [(0, .int .i64 ((n : Nat) : Int)), (5, ptr b14 0), (7, .int .i64 ((many : Nat) : Int)), (9, .int .i64 ((mm : Nat) : Int)), (10, .int .i64 ((k9 : Nat) : Int)), (8, ax)]) (.cons rfl (.cons rfl (.cons rfl (.cons rfl (.cons rfl (.cons rfl .nil)))))) (Gx.norm (l' := [Hp.own FM 3 ax (cs ++ colA n many c9 ++ rowA mm k9), Hp.rec_ b14 [.slice sa8 sn9 sc10, .slice sa11 sn12 sc13]]) rfl ?_)
      have hln : (cs ++ colA n many c9 ++ rowA mm k9).length ≤ 1000 := by
        have h2 : n * c9 ≤ n * many := Nat.mul_le_mul_left n (by omega)
        rw [← hNM] at h2
        simp only [List.length_append, colA_len, rowA_len]; omega
      refine Gx.seq ?_
      refine Gx.seq ?_
      refine Gx.region ?_
      refine Gx.val rfl rfl rfl (val_move rfl rfl) ?_
      refine Gx.val rfl rfl rfl (val_move rfl rfl) ?_
      refine Gx.val rfl rfl rfl (val_lss rfl rfl rfl) ?_
      refine Gx.done ?_
      refine Gx.thenN ?_
      refine Gx.dec rfl (fun h21 => ?_) (fun h21 => ?_)
      · refine Gx.skip ?_
        refine Gx.thenN ?_
        refine Gx.seq ?_
        refine Gx.block ?_
        refine Gx.region ?_
        refine Gx.val rfl rfl rfl (val_move rfl rfl) ?_
        refine Gx.val rfl rfl rfl (val_move rfl rfl) ?_
        refine Gx.val rfl rfl rfl (val_move rfl rfl) ?_
        refine Gx.val rfl rfl rfl (val_build rfl (qs := [(0, .int .i64 2), (1, .int .i64 ((k9 : Nat) : Int)), (2, .int .i64 ((mm : Nat) : Int))]) rfl rfl (fun w => by go_simp) (v := .agg #[.int .i64 2, .int .i64 ((k9 : Nat) : Int), .int .i64 ((mm : Nat) : Int)])) ?_
        refine Gx.eff rfl rfl rfl (eff_buildSlice rfl (qs := [(0, .agg #[.int .i64 2, .int .i64 ((k9 : Nat) : Int), .int .i64 ((mm : Nat) : Int)])]) rfl rfl (cs := #[.int .i64 2, .int .i64 ((k9 : Nat) : Int), .int .i64 ((mm : Nat) : Int)]) (vs := [.int .i64 2, .int .i64 ((k9 : Nat) : Int), .int .i64 ((mm : Nat) : Int)]) (E := 35) rfl (fun w => by first | (go_simp; done) | (go_simp; rfl))) ?_
        rintro _ _ ⟨b22, rfl, rfl⟩
        refine Gx.eff rfl rfl rfl (eff_push (r := (mv k9 mm)) rfl Try.eM FM_len FM_one rfl rfl (k := 0) rfl rfl (k' := 0) rfl (by omega) (by omega)) ?_
        rintro v23 _ ⟨hiv23, rfl⟩
        refine Gx.norm (l' := [Hp.own FM 3 v23 ((cs ++ colA n many c9 ++ rowA mm k9) ++ [(mv k9 mm)]), Hp.rec_ b14 [.slice sa8 sn9 sc10, .slice sa11 sn12 sc13]]) rfl ?_
        refine Gx.val rfl rfl rfl (val_assign rfl rfl) ?_
        refine Gx.done ?_
        refine Gx.blkN ?_
        refine Gx.thenN ?_
        refine Gx.region ?_
        refine Gx.val rfl rfl rfl (val_move rfl rfl) ?_
        refine Gx.val rfl rfl rfl (val_add rfl rfl rfl (r := ((k9 + 1 : Nat) : Int)) (w64 (by omega) (by omega))) ?_
        refine Gx.val rfl rfl rfl (val_assign rfl rfl) ?_
        refine Gx.done ?_
        refine Gx.thenN ?_
        refine Gx.norm (l' := [Hp.own FM 3 v23 (cs ++ colA n many c9 ++ rowA mm (k9 + 1)), Hp.rec_ b14 [.slice sa8 sn9 sc10, .slice sa11 sn12 sc13]]) (by rw [show rowA mm (k9 + 1) = rowA mm k9 ++ [mv k9 mm] from rfl, ← List.append_assoc] <;> rfl) ?_
        exact Gx.round (k9 + 1, v23) ⟨by first | omega | (dsimp only; omega), hiv23⟩ (by first | omega | (dsimp only; omega)) ((.cons rfl (.cons rfl (.cons rfl (.cons rfl (.cons rfl (.cons rfl .nil))))))) rfl
      · refine Gx.exit ?_
        refine Gx.thenE ?_
        refine Gx.thenE ?_
        refine Gx.blkE ?_
        refine Gx.blkN ?_
        refine Gx.thenN ?_
        refine Gx.region ?_
        refine Gx.val rfl rfl rfl (val_move rfl rfl) ?_
        refine Gx.val rfl rfl rfl (val_sub rfl rfl rfl (r := (((mm : Nat) : Int) - 1)) (w64 (by omega) (by omega))) ?_
        refine Gx.val rfl rfl rfl (val_assign rfl rfl) ?_
        refine Gx.done ?_
        refine Gx.thenN ?_
        refine Gx.norm (l' := [Hp.own FM 3 ax (cs ++ colA n many (c9 + 1)), Hp.rec_ b14 [.slice sa8 sn9 sc10, .slice sa11 sn12 sc13]]) (by rw [show colA n many (c9 + 1) = colA n many c9 ++ rowA (many - 1 - c9) n from rfl, ← List.append_assoc, show many - 1 - c9 = mm from by omega, show n = k9 from by omega] <;> rfl) ?_
        exact Gx.round ((c9 + 1), (((mm : Nat) : Int) - 1), ax) ⟨by first | omega | (dsimp only; omega), by first | omega | (dsimp only; omega), hie⟩ (by first | omega | (dsimp only; omega)) ((.cons rfl (.cons rfl (.cons rfl (.cons rfl (.cons rfl .nil)))))) rfl
    · refine Gx.exit ?_
      refine Gx.thenE ?_
      refine Gx.thenE ?_
      refine Gx.blkE ?_
      refine Gx.thenN ?_
      refine Gx.seq ?_
      obtain rfl : c9 = many := by omega
      have hal : (cs ++ colA n c9 c9).length ≤ 120 := by simp only [List.length_append, colA_len]; rw [← hNM]; omega
      refine Gx.norm (l' := [Hp.own FM 3 aw (cs ++ colA n c9 c9), Hp.rec_ b14 [.slice sa8 sn9 sc10, .slice sa11 sn12 sc13]]) rfl ?_
      refine Gx.region ?_
      refine Gx.val rfl rfl rfl (val_move rfl rfl) ?_
      refine Gx.val rfl rfl rfl (val_move rfl rfl) ?_
      refine Gx.callB rfl rfl rfl (vs := [.int .i64 ((n : Nat) : Int), aw]) rfl Try.fn7 rfl (R := fun v w' => ∃ (cv dv : Value) (vals : List Sv), v = .tuple #[.agg #[cv, dv], .int .i64 0] ∧ SlS FZ 1 w' cv (codesC (cs0 n) (cs ++ colA n c9 c9)) ∧ SlS FV 1 w' dv vals ∧ vals.length = n ∧ ∀ (kw : Nat) (v : Sv), vals[kw]? = some v → SlS FN 1 w' (.slice v.a v.n v.c) (lstC (stC (cs0 n) (cs ++ colA n c9 c9)) kw)) (fun w H => play_ok h1n h6n ((H.at_ (k := 0) rfl).sls (by first | omega | (simp; omega))) (hal)) ?_
      rintro _ W27 ⟨cv24, dv25, vals26, rfl, hcv24, hdv25, hldv25, hrdv25⟩ H28
      have hW29 := hW6.trans (H28.below.mono hW6.size)
      have hs30 := hs7.below H28.below
      have hs31 := hcv1.below H28.below
      have hs32 := hdv2.below H28.below
      have hs33 := (H28.at_ (k := 0) rfl).sls (by first | omega | (simp; done) | (simp; omega))
      have hb34 := (H28.at_ (k := 1) rfl).rec_.1
      have hc35 := (H28.at_ (k := 1) rfl).cell 0 (u := .slice sa8 sn9 sc10) rfl
      have hc36 := (H28.at_ (k := 1) rfl).cell 1 (u := .slice sa11 sn12 sc13) rfl
      have hclcv24 : (codesC (cs0 n) (cs ++ colA n c9 c9)).length = ((cs ++ colA n c9 c9)).length := codesC_len ..
      obtain ⟨sa37, sn38, sc39, rfl⟩ := hcv24.isS
      obtain ⟨sa40, sn41, sc42, rfl⟩ := hdv25.isS
      refine Gx.val rfl rfl rfl (val_move rfl rfl) ?_
      refine Gx.val rfl rfl rfl (val_extract rfl rfl rfl) ?_
      refine Gx.val rfl rfl rfl (val_extract rfl rfl rfl) ?_
      refine Gx.eff rfl rfl rfl (eff_alloc rfl Try.ty26 (vs := [.slice none 0 0, .slice none 0 0]) rfl) ?_
      rintro _ _ ⟨b43, rfl, rfl⟩
      refine Gx.eff0 rfl rfl (eff_store rfl Try.ty26 rfl rfl (us := [.slice sa37 sn38 sc39, .slice sa40 sn41 sc42]) rfl rfl rfl (k := 0) rfl (rfl) (vs' := [.slice sa37 sn38 sc39, .slice sa40 sn41 sc42]) (rfl) (l' := [Hp.rec_ b43 [.slice sa37 sn38 sc39, .slice sa40 sn41 sc42]]) rfl) ?_
      rintro _ _ rfl
      refine Gx.val rfl rfl rfl (val_assign rfl rfl) ?_
      refine Gx.done ?_
      refine Gx.thenN ?_
      refine Gx.seq ?_
      refine Gx.seq ?_
      refine Gx.region ?_
      refine Gx.val rfl rfl rfl (val_move rfl rfl) ?_
      refine Gx.val rfl rfl rfl (Val.cast (val_neq rfl rfl rfl) (v' := .bool false) rfl) ?_
      refine Gx.val rfl rfl rfl (val_move rfl rfl) ?_
      refine Gx.valg rfl rfl rfl rfl rfl (Val.cast (val_fieldAddr rfl Try.underlying26 rfl Try.ty24 rfl rfl) (v' := ptr b43 1) rfl) ?_
      refine Gx.valg rfl rfl rfl rfl rfl (val_load rfl Try.ty24 rfl rfl (cell_rec (k := 0) rfl rfl)) ?_
      refine Gx.valg rfl rfl rfl rfl rfl (val_len rfl Try.underlying24 rfl (len_base hdv25)) ?_
      refine Gx.valg rfl rfl rfl rfl rfl (val_move rfl rfl) ?_
      refine Gx.valg rfl rfl rfl rfl rfl (val_neq rfl rfl rfl) ?_
      refine Gx.val rfl rfl rfl (val_pickF rfl rfl rfl) ?_
      refine Gx.done ?_
      refine Gx.thenN ?_
      refine Gx.decF rfl (by omega) ?_
      refine Gx.skip ?_
      refine Gx.thenN ?_
      refine Gx.seq ?_
      refine Gx.seq ?_
      refine Gx.region ?_
      refine Gx.val rfl rfl rfl (Val.cast (val_fieldAddr rfl Try.underlying26 rfl Try.ty24 rfl rfl) (v' := ptr b43 1) rfl) ?_
      refine Gx.val rfl rfl rfl (val_load rfl Try.ty24 rfl rfl (cell_rec (k := 0) rfl rfl)) ?_
      refine Gx.val rfl rfl rfl (val_len rfl Try.underlying24 rfl (len_base hdv25)) ?_
      refine Gx.val rfl rfl rfl (val_move rfl rfl) ?_
      refine Gx.done ?_
      refine Gx.thenN ?_
      refine Gx.block ?_
      refine Gx.loop (ι := Nat) (fun ξ => (ξ ≤ n)) (fun ξ => [(0, .int .i64 ((n : Nat) : Int)), (7, .int .i64 ((c9 : Nat) : Int)), (80, .slice sa40 sn41 sc42), (81, .int .i64 ((vals26.length : Nat) : Int)), (82, .int .i64 ((ξ : Nat) : Int))]) (fun ξ => [Hp.rec_ b43 [.slice sa37 sn38 sc39, .slice sa40 sn41 sc42]]) (fun ξ => n - ξ) 0 (by first | omega | (dsimp only; omega)) ((.cons rfl (.cons rfl (.cons rfl (.cons rfl (.cons rfl .nil)))))) rfl ?_
      rintro q9 hq9
      refine Gx.know (m' := [(0, .int .i64 ((n : Nat) : Int)), (7, .int .i64 ((c9 : Nat) : Int)), (80, .slice sa40 sn41 sc42), (81, .int .i64 ((vals26.length : Nat) : Int)), (82, .int .i64 ((q9 : Nat) : Int))]) (.cons rfl (.cons rfl (.cons rfl (.cons rfl (.cons rfl .nil))))) (Gx.norm (l' := [Hp.rec_ b43 [.slice sa37 sn38 sc39, .slice sa40 sn41 sc42]]) rfl ?_)
      refine Gx.seq ?_
      refine Gx.region ?_
      refine Gx.val rfl rfl rfl (val_lss rfl rfl rfl) ?_
      refine Gx.done ?_
      refine Gx.thenN ?_
      refine Gx.seq ?_
      refine Gx.dec rfl (fun h44 => ?_) (fun h44 => ?_)
      · refine Gx.skip ?_
        refine Gx.thenN ?_
        refine Gx.seq ?_
        refine Gx.block ?_
        refine Gx.seq ?_
        obtain ⟨x, hx⟩ := get_of_lt (xs := vals26) (k := q9) (by omega)
        have hrx := hrdv25 q9 x hx
        have hll : (lstC (stC (cs0 n) (cs ++ colA n c9 c9)) q9).length = c9 := all_run q9 (by omega) c9 hmm
        have hnd := (((InvC.zero n).run (cs ++ colA n c9 c9)).lst (i := q9)).1
        refine Gx.region ?_
        refine Gx.val rfl rfl rfl (val_ixa rfl Try.underlying24 Try.ty30 rfl rfl (j := q9) (rfl) (reach_base hdv25 hx)) ?_
        refine Gx.val rfl rfl rfl (val_load rfl Try.ty30 rfl rfl (cell_base (i := 0) hdv25 hx rfl)) ?_
        refine Gx.val rfl rfl rfl (val_assign rfl rfl) ?_
        refine Gx.done ?_
        refine Gx.thenN ?_
        refine Gx.seq ?_
        refine Gx.region ?_
        refine Gx.val rfl rfl rfl (val_move rfl rfl) ?_
        refine Gx.val rfl rfl rfl (val_len rfl Try.underlying30 rfl (len_base hrx)) ?_
        refine Gx.val rfl rfl rfl (val_move rfl rfl) ?_
        refine Gx.val rfl rfl rfl (val_neq rfl rfl rfl) ?_
        refine Gx.val rfl rfl rfl (val_move rfl rfl) ?_
        refine Gx.slot (t := 90) (v := .bool false) (look_decF rfl (by omega)) ?_
        refine Gx.valg rfl rfl rfl rfl rfl (val_move rfl rfl) ?_
        refine Gx.valg rfl rfl rfl rfl rfl (val_call (vs := [.slice x.a x.n x.c]) rfl Try.fn9 rfl (fun w H => once_yes (hrx.below H.below) hnd)) ?_
        refine Gx.valg rfl rfl rfl rfl rfl (Val.cast (val_not rfl rfl) (v' := .bool false) rfl) ?_
        refine Gx.val rfl rfl rfl (val_pickF rfl rfl rfl) ?_
        refine Gx.done ?_
        refine Gx.thenN ?_
        refine Gx.f rfl ?_
        refine Gx.skip ?_
        refine Gx.blkN ?_
        refine Gx.thenN ?_
        refine Gx.region ?_
        refine Gx.val rfl rfl rfl (val_add rfl rfl rfl (r := ((q9 + 1 : Nat) : Int)) (w64 (by omega) (by omega))) ?_
        refine Gx.val rfl rfl rfl (val_move rfl rfl) ?_
        refine Gx.done ?_
        refine Gx.thenN ?_
        exact Gx.round (q9 + 1) (by first | omega | (dsimp only; omega)) (by first | omega | (dsimp only; omega)) ((.cons rfl (.cons rfl (.cons rfl (.cons rfl (.cons rfl .nil)))))) rfl
      · refine Gx.exit ?_
        refine Gx.thenE ?_
        refine Gx.thenE ?_
        refine Gx.blkE ?_
        refine Gx.thenN ?_
        refine Gx.seq ?_
        refine Gx.region ?_
        refine Gx.val rfl rfl rfl (val_assign rfl rfl) ?_
        refine Gx.done ?_
        refine Gx.thenN ?_
        refine Gx.ret ?_
        refine Gx.ret1B hW29 Try.results4 rfl ?_
        rfl

theorem all_any {W : World} {k : Int} {sv : Value} {cs : List Mv} (hs : SlS FM 3 W sv cs) : Calls Try.prog 4 #[.int .i64 k, sv] W fun e w' => e = .returned (.bool true) ∧ Below W.heap.size W w' := by
  by_cases h : k < 1 ∨ 6 < k ∨ 120 < (cs.length : Int)
  · exact all_no hs h
  · obtain ⟨n, rfl⟩ : ∃ n : Nat, k = (n : Int) := ⟨k.toNat, by omega⟩
    exact all_yes (by omega) (by omega) hs (by omega)
end Go.Proofs.Ytcjdphhofjibdaa
