/- How many have voted. The walk. No condition. -/
import Derived.Test.YtghnahckopokhaaB2
namespace Go.Proofs.Ytghnahckopokhaa
open Go.RowKit
set_option linter.unusedVariables false
set_option linter.unusedSimpArgs false
set_option maxRecDepth 100000

theorem rec_one {w W : World} {b : Nat} {x : Int} {R : Hp} (H : Sat W w (Hp.rec_ b [.int .i64 x] * R)) : SlS FI 1 w (.slice (some ⟨b, 0, none⟩) 1 1) [x] :=
  (Sat.sls (f := FI) (sz := 1) (xs := [x]) (H.mono (own_of_rec (f := FI) (sz := 1) (xs := [x]) FI_len rfl)) (by simp))
theorem inside_yes {W : World} {n : Nat} {x : Int} {xv : Value} (hx : SlS FI 1 W xv [x]) (h0 : 0 ≤ x) (h1 : x < n) : Calls Try.prog 13 #[.int .i64 ((n : Nat) : Int), xv] W fun e w' => e = .returned (.bool true) ∧ Below W.heap.size W w' := by
  refine calls_pure (Gx.enter (l := []) Try.func13 rfl Try.ntmps13 rfl (Sat.start W) ?_)
  refine Gx.know (m' := [(0, .int .i64 ((n : Nat) : Int)), (1, xv)]) (.cons rfl (.cons rfl .nil)) ?_
  refine Gx.seq ?_
  refine Gx.region ?_
  refine Gx.val rfl rfl rfl (val_assign rfl rfl) ?_
  refine Gx.done ?_
  refine Gx.thenN ?_
  refine Gx.seq ?_
  refine Gx.seq ?_
  refine Gx.region ?_
  refine Gx.val rfl rfl rfl (val_move rfl rfl) ?_
  refine Gx.val rfl rfl rfl (val_len rfl Try.underlying37 rfl (len_base hx)) ?_
  refine Gx.val rfl rfl rfl (val_move rfl rfl) ?_
  refine Gx.done ?_
  refine Gx.thenN ?_
  refine Gx.block ?_
  refine Gx.loop (ι := Nat) (fun ξ => (ξ ≤ 1)) (fun ξ => [(0, .int .i64 ((n : Nat) : Int)), (7, xv), (8, .int .i64 ((([x]).length : Nat) : Int)), (9, .int .i64 ((ξ : Nat) : Int))]) (fun ξ => []) (fun ξ => 1 - ξ) 0 (by first | omega | (dsimp only; omega)) ((.cons rfl (.cons rfl (.cons rfl (.cons rfl .nil))))) rfl ?_
  rintro i hi
  refine Gx.know (m' := [(0, .int .i64 ((n : Nat) : Int)), (7, xv), (8, .int .i64 ((([x]).length : Nat) : Int)), (9, .int .i64 ((i : Nat) : Int))]) (.cons rfl (.cons rfl (.cons rfl (.cons rfl .nil)))) (Gx.norm (l' := []) rfl ?_)
  refine Gx.seq ?_
  refine Gx.region ?_
  refine Gx.val rfl rfl rfl (val_lss rfl rfl rfl) ?_
  refine Gx.done ?_
  refine Gx.thenN ?_
  refine Gx.seq ?_
  refine Gx.dec rfl (fun h1 => ?_) (fun h1 => ?_)
  · refine Gx.skip ?_
    refine Gx.thenN ?_
    refine Gx.seq ?_
    refine Gx.block ?_
    refine Gx.seq ?_
    obtain rfl : i = 0 := by simp at *; omega
    refine Gx.region ?_
    refine Gx.val rfl rfl rfl (val_ixa rfl Try.underlying37 Try.ty3 rfl rfl (j := 0) (rfl) (reach_base hx (show [x][0]? = some x from rfl))) ?_
    refine Gx.val rfl rfl rfl (val_load rfl Try.ty3 rfl rfl (cell_base (i := 0) (sz := 1) (j := 0) hx (show [x][0]? = some x from rfl) rfl)) ?_
    refine Gx.val rfl rfl rfl (val_assign rfl rfl) ?_
    refine Gx.done ?_
    refine Gx.thenN ?_
    refine Gx.seq ?_
    refine Gx.region ?_
    refine Gx.val rfl rfl rfl (val_move rfl rfl) ?_
    refine Gx.val rfl rfl rfl (val_lss rfl rfl rfl) ?_
    refine Gx.val rfl rfl rfl (val_move rfl rfl) ?_
    refine Gx.slot (t := 15) (v := .bool false) (look_decF rfl (by omega)) ?_
    refine Gx.valg rfl rfl rfl rfl rfl (val_move rfl rfl) ?_
    refine Gx.valg rfl rfl rfl rfl rfl (val_move rfl rfl) ?_
    refine Gx.valg rfl rfl rfl rfl rfl (val_geq rfl rfl rfl) ?_
    refine Gx.val rfl rfl rfl (val_pickF rfl rfl rfl) ?_
    refine Gx.done ?_
    refine Gx.thenN ?_
    refine Gx.decF rfl (by omega) ?_
    refine Gx.skip ?_
    refine Gx.blkN ?_
    refine Gx.thenN ?_
    refine Gx.region ?_
    refine Gx.val rfl rfl rfl (val_add rfl rfl rfl (r := 1) (w64 (by omega) (by omega))) ?_
    refine Gx.val rfl rfl rfl (val_move rfl rfl) ?_
    refine Gx.done ?_
    refine Gx.thenN ?_
    exact Gx.round 1 (by first | omega | (dsimp only; omega)) (by first | omega | (dsimp only; omega)) ((.cons rfl (.cons rfl (.cons rfl (.cons rfl .nil))))) rfl
  · refine Gx.exit ?_
    refine Gx.thenE ?_
    refine Gx.thenE ?_
    refine Gx.blkE ?_
    refine Gx.thenN ?_
    refine Gx.seq ?_
    refine Gx.region ?_
    refine Gx.val rfl rfl rfl (val_assign rfl rfl) ?_
    refine Gx.done ?_
    refine Gx.thenN ?_
    refine Gx.ret ?_
    refine Gx.ret1 Try.results13 rfl ?_
    rfl

theorem bit_c {L i0 : Nat} {i : Int} {w : World} (hx : L < 4294967296) (h : i = (i0 : Int)) (h32 : i0 < 32) : Calls Try.prog 14 #[.int .u32 ((L : Nat) : Int), .int .i64 i] w fun e w' => e = .returned (.bool (liesB L i0)) ∧ Below w.heap.size w w' := by
  subst h
  refine (bit_any L i0 w hx).mono fun e w' ⟨h, e2⟩ => ?_
  subst e2
  rw [bitF_nat h32] at h
  exact ⟨h, Below.refl ..⟩
theorem votes_bad {W : World} {k f : Int} {L : Nat} {sv : Value} {cs : List Sy} (hs : SlS FM 5 W sv cs) (hbad : ¬ Valid k f L cs) :
    Calls Try.prog 7 #[.int .i64 k, .int .i64 f, .int .u32 ((L : Nat) : Int), sv] W fun e w' => e = .returned (.bool true) ∧ Below W.heap.size W w' := by
  refine calls_pure (Gx.enter (l := []) Try.func7 rfl Try.ntmps7 rfl (Sat.start W) ?_)
  refine Gx.know (m' := [(0, .int .i64 k), (1, .int .i64 f), (2, .int .u32 ((L : Nat) : Int)), (3, sv)]) (.cons rfl (.cons rfl (.cons rfl (.cons rfl .nil)))) ?_
  refine Gx.seq ?_
  refine Gx.region ?_
  refine Gx.val rfl rfl rfl (val_assign rfl rfl) ?_
  refine Gx.done ?_
  refine Gx.thenN ?_
  refine Gx.seq ?_
  refine Gx.region ?_
  refine Gx.val rfl rfl rfl (val_move rfl rfl) ?_
  refine Gx.val rfl rfl rfl (val_move rfl rfl) ?_
  refine Gx.val rfl rfl rfl (val_move rfl rfl) ?_
  refine Gx.val rfl rfl rfl (val_move rfl rfl) ?_
  refine Gx.eff rfl rfl rfl (eff_callE (vs := [.int .i64 k, .int .i64 f, .int .u32 ((L : Nat) : Int), sv]) rfl Try.fn8 rfl (R := fun v => ∃ z : Int, z ≠ 0 ∧ v = .tuple #[.agg #[.slice none 0 0, .slice none 0 0, .slice none 0 0, .slice none 0 0], .int .i64 z]) (fun w H => play_bad (hs.below H.below) hbad)) ?_
  rintro _ _ ⟨⟨zz1, hzz2, rfl⟩, rfl⟩
  refine Gx.val rfl rfl rfl (val_move rfl rfl) ?_
  refine Gx.val rfl rfl rfl (val_extract rfl rfl rfl) ?_
  refine Gx.val rfl rfl rfl (val_extract rfl rfl rfl) ?_
  refine Gx.eff rfl rfl rfl (eff_alloc rfl Try.ty28 (vs := [.slice none 0 0, .slice none 0 0, .slice none 0 0, .slice none 0 0]) rfl) ?_
  rintro _ _ ⟨b3, rfl, rfl⟩
  refine Gx.eff0 rfl rfl (eff_store rfl Try.ty28 rfl rfl (us := [.slice none 0 0, .slice none 0 0, .slice none 0 0, .slice none 0 0]) rfl rfl rfl (k := 0) rfl (rfl) (vs' := [.slice none 0 0, .slice none 0 0, .slice none 0 0, .slice none 0 0]) (rfl) (l' := [Hp.rec_ b3 [.slice none 0 0, .slice none 0 0, .slice none 0 0, .slice none 0 0]]) rfl) ?_
  rintro _ _ rfl
  refine Gx.val rfl rfl rfl (val_assign rfl rfl) ?_
  refine Gx.done ?_
  refine Gx.thenN ?_
  refine Gx.seq ?_
  refine Gx.seq ?_
  refine Gx.region ?_
  refine Gx.val rfl rfl rfl (val_move rfl rfl) ?_
  refine Gx.val rfl rfl rfl (val_neq rfl rfl rfl) ?_
  refine Gx.done ?_
  refine Gx.thenN ?_
  refine Gx.decT rfl (by omega) ?_
  refine Gx.seq ?_
  refine Gx.region ?_
  refine Gx.val rfl rfl rfl (Val.cast (val_fieldAddr rfl Try.underlying28 rfl Try.ty24 rfl rfl) (v' := ptr b3 0) rfl) ?_
  refine Gx.val rfl rfl rfl (val_load rfl Try.ty24 rfl rfl (cell_rec (k := 0) rfl rfl)) ?_
  refine Gx.val rfl rfl rfl (val_len rfl Try.underlying24 rfl len_lit) ?_
  refine Gx.val rfl rfl rfl (Val.cast (val_eql rfl rfl rfl) (v' := .bool true) rfl) ?_
  refine Gx.val rfl rfl rfl (val_assign rfl rfl) ?_
  refine Gx.done ?_
  refine Gx.thenN ?_
  refine Gx.ret ?_
  refine Gx.thenR ?_
  refine Gx.ret1 Try.results7 rfl ?_
  first | rfl | exact congrArg Value.bool (decide_eq_true rfl)

theorem votes_yes {W : World} {c : MC} {f : Nat} {sv : Value} {cs : List Sy} (hs : SlS FM 5 W sv cs) (h1n : 1 ≤ c.n) (h7n : c.n ≤ 7) (hcl : cs.length ≤ 120) (hf : f ≤ (c.n - 1) / 3) (hfn : c.need + f = c.n) (hLn : c.L >>> c.n = 0) (hL : c.L < 4294967296) :
    Calls Try.prog 7 #[.int .i64 ((c.n : Nat) : Int), .int .i64 ((f : Nat) : Int), .int .u32 ((c.L : Nat) : Int), sv] W fun e w' => e = .returned (.bool true) ∧ Below W.heap.size W w' := by
  have ok : OkM c := ⟨h7n, by omega, hL⟩
  have bd := BdM.at_ ok cs
  have iv := InvM.run ok cs (BdM.start c) (InvM.start c)
  have hb40 := bd.b40
  have hpos := bd.pos
  have hm9 := sls_bd hs
  refine calls_pure (Gx.enter (l := []) Try.func7 rfl Try.ntmps7 rfl (Sat.start W) ?_)
  refine Gx.know (m' := [(0, .int .i64 ((c.n : Nat) : Int)), (1, .int .i64 ((f : Nat) : Int)), (2, .int .u32 ((c.L : Nat) : Int)), (3, sv)]) (.cons rfl (.cons rfl (.cons rfl (.cons rfl .nil)))) ?_
  refine Gx.seq ?_
  refine Gx.region ?_
  refine Gx.val rfl rfl rfl (val_assign rfl rfl) ?_
  refine Gx.done ?_
  refine Gx.thenN ?_
  refine Gx.seq ?_
  refine Gx.region ?_
  refine Gx.val rfl rfl rfl (val_move rfl rfl) ?_
  refine Gx.val rfl rfl rfl (val_move rfl rfl) ?_
  refine Gx.val rfl rfl rfl (val_move rfl rfl) ?_
  refine Gx.val rfl rfl rfl (val_move rfl rfl) ?_
  refine Gx.callB rfl rfl rfl (vs := [.int .i64 ((c.n : Nat) : Int), .int .i64 ((f : Nat) : Int), .int .u32 ((c.L : Nat) : Int), sv]) rfl Try.fn8 rfl (R := fun v w' => ∃ (cv bv wv dv : Value) (ds : List Bool), v = .tuple #[.agg #[cv, bv, wv, dv], .int .i64 0] ∧ SlS FZ 1 w' cv (codesM c (ms0 c.n) cs) ∧ SlS FK 2 w' bv (stM c (ms0 c.n) cs).bl ∧ SlS FB 1 w' wv (certL c (stM c (ms0 c.n) cs)) ∧ SlS FB 1 w' dv ds ∧ Chn.IsDec (blsP (stM c (ms0 c.n) cs).bl) (certL c (stM c (ms0 c.n) cs)) (stM c (ms0 c.n) cs).bl.length ds) (fun w H => play_ok (hs.below H.below) h1n h7n (by omega) hf hfn hLn hL) ?_
  rintro _ W7 ⟨cv1, bv2, wv3, dv4, ds5, rfl, hcv1, hbv2, hwv3, hdv4, hds6⟩ H8
  have hW9 := H8.below
  have hs10 := hs.below H8.below
  have hclcv1 : (codesM c (ms0 c.n) cs).length = (cs).length := codesM_len ..
  have hwlcv1 : (certL c (stM c (ms0 c.n) cs)).length = (stM c (ms0 c.n) cs).bl.length := by unfold certL; rw [List.length_map, List.length_range]
  have hdlcv1 : ds5.length = (stM c (ms0 c.n) cs).bl.length := by rw [hds6.1, List.length_map]
  refine Gx.val rfl rfl rfl (val_move rfl rfl) ?_
  obtain ⟨sa11, sn12, sc13, rfl⟩ := hcv1.isS
  obtain ⟨sa14, sn15, sc16, rfl⟩ := hbv2.isS
  obtain ⟨sa17, sn18, sc19, rfl⟩ := hwv3.isS
  obtain ⟨sa20, sn21, sc22, rfl⟩ := hdv4.isS
  refine Gx.val rfl rfl rfl (val_extract rfl rfl rfl) ?_
  refine Gx.val rfl rfl rfl (val_extract rfl rfl rfl) ?_
  refine Gx.eff rfl rfl rfl (eff_alloc rfl Try.ty28 (vs := [.slice none 0 0, .slice none 0 0, .slice none 0 0, .slice none 0 0]) rfl) ?_
  rintro _ _ ⟨b23, rfl, rfl⟩
  refine Gx.eff0 rfl rfl (eff_store rfl Try.ty28 rfl rfl (us := [.slice sa11 sn12 sc13, .slice sa14 sn15 sc16, .slice sa17 sn18 sc19, .slice sa20 sn21 sc22]) rfl rfl rfl (k := 0) rfl (rfl) (vs' := [.slice sa11 sn12 sc13, .slice sa14 sn15 sc16, .slice sa17 sn18 sc19, .slice sa20 sn21 sc22]) (rfl) (l' := [Hp.rec_ b23 [.slice sa11 sn12 sc13, .slice sa14 sn15 sc16, .slice sa17 sn18 sc19, .slice sa20 sn21 sc22]]) rfl) ?_
  rintro _ _ rfl
  refine Gx.val rfl rfl rfl (val_assign rfl rfl) ?_
  refine Gx.done ?_
  refine Gx.thenN ?_
  refine Gx.seq ?_
  refine Gx.seq ?_
  refine Gx.region ?_
  refine Gx.val rfl rfl rfl (val_move rfl rfl) ?_
  refine Gx.val rfl rfl rfl (Val.cast (val_neq rfl rfl rfl) (v' := .bool false) rfl) ?_
  refine Gx.done ?_
  refine Gx.thenN ?_
  refine Gx.f rfl ?_
  refine Gx.skip ?_
  refine Gx.thenN ?_
  refine Gx.seq ?_
  refine Gx.seq ?_
  refine Gx.region ?_
  refine Gx.val rfl rfl rfl (Val.cast (val_loadA rfl Try.ty28 rfl rfl rfl (cells_rec (k := 0) rfl)) (v' := .agg #[.slice sa11 sn12 sc13, .slice sa14 sn15 sc16, .slice sa17 sn18 sc19, .slice sa20 sn21 sc22]) rfl) ?_
  refine Gx.val rfl rfl rfl (val_move rfl rfl) ?_
  refine Gx.val rfl rfl rfl (val_call (vs := [.agg #[.slice sa11 sn12 sc13, .slice sa14 sn15 sc16, .slice sa17 sn18 sc19, .slice sa20 sn21 sc22], sv]) rfl Try.fn9 rfl (fun w H => met_yes (hcv1.below H.below) (hbv2.below H.below) (hwv3.below H.below) (hdv4.below H.below) (hs10.below H.below) (by omega) bd.okc (by omega) (by omega))) ?_
  refine Gx.val rfl rfl rfl (Val.cast (val_not rfl rfl) (v' := .bool false) rfl) ?_
  refine Gx.done ?_
  refine Gx.thenN ?_
  refine Gx.f rfl ?_
  refine Gx.skip ?_
  refine Gx.thenN ?_
  refine Gx.seq ?_
  refine Gx.region ?_
  refine Gx.val rfl rfl rfl (Val.cast (val_fieldAddr rfl Try.underlying28 rfl Try.ty25 rfl rfl) (v' := ptr b23 1) rfl) ?_
  refine Gx.val rfl rfl rfl (val_load rfl Try.ty25 rfl rfl (cell_rec (k := 0) rfl rfl)) ?_
  refine Gx.val rfl rfl rfl (val_len rfl Try.underlying25 rfl (len_base hbv2)) ?_
  refine Gx.eff rfl rfl rfl (eff_makeSlice (n := (stM c (ms0 c.n) cs).bl.length) (f := FI) rfl Try.underlying37 Try.ty3 rfl rfl (rfl) (rfl) FI_len (0 : Int) rfl (by omega) (by omega)) ?_
  rintro v24 _ ⟨hiv24, rfl⟩
  refine Gx.val rfl rfl rfl (val_assign rfl rfl) ?_
  refine Gx.done ?_
  refine Gx.thenN ?_
  refine Gx.seq ?_
  refine Gx.region ?_
  refine Gx.val rfl rfl rfl (val_move rfl rfl) ?_
  refine Gx.eff rfl rfl rfl (eff_makeSlice (n := c.n) (f := FI) rfl Try.underlying37 Try.ty3 rfl rfl (rfl) (rfl) FI_len (0 : Int) rfl (by omega) (by omega)) ?_
  rintro v25 _ ⟨hiv25, rfl⟩
  refine Gx.val rfl rfl rfl (val_assign rfl rfl) ?_
  refine Gx.done ?_
  refine Gx.thenN ?_
  refine Gx.seq ?_
  refine Gx.seq ?_
  refine Gx.norm (l' := [Hp.own FI 1 v25 (List.replicate c.n (0 : Int)), Hp.own FI 1 v24 (popL c (stM c (ms0 c.n) cs).bl.length (stM c (ms0 c.n) (cs.take 0))), Hp.rec_ b23 [.slice sa11 sn12 sc13, .slice sa14 sn15 sc16, .slice sa17 sn18 sc19, .slice sa20 sn21 sc22]]) (by rw [show stM c (ms0 c.n) (cs.take 0) = ms0 c.n from rfl, popL_zero] <;> rfl) ?_
  refine Gx.region ?_
  refine Gx.val rfl rfl rfl (val_move rfl rfl) ?_
  refine Gx.val rfl rfl rfl (val_len rfl Try.underlying23 rfl (len_base hs10)) ?_
  refine Gx.val rfl rfl rfl (val_move rfl rfl) ?_
  refine Gx.done ?_
  refine Gx.thenN ?_
  refine Gx.block ?_
  refine Gx.front 2 rfl ?_
  refine Gx.front 1 rfl ?_
  refine Gx.front 2 rfl ?_
  refine Gx.loop (ι := Nat × (List Int)) (fun ξ => (ξ.1 ≤ cs.length) ∧ (ξ.2.length = c.n) ∧ (LastOk c (stM c (ms0 c.n) (cs.take ξ.1)) ξ.2)) (fun ξ => [(0, .int .i64 ((c.n : Nat) : Int)), (1, .int .i64 ((f : Nat) : Int)), (2, .int .u32 ((c.L : Nat) : Int)), (9, ptr b23 0), (11, v24), (12, v25), (41, sv), (42, .int .i64 ((cs.length : Nat) : Int)), (43, .int .i64 ((ξ.1 : Nat) : Int))]) (fun ξ => [Hp.own FI 1 v24 (popL c (stM c (ms0 c.n) cs).bl.length (stM c (ms0 c.n) (cs.take ξ.1))), Hp.own FI 1 v25 ξ.2, Hp.rec_ b23 [.slice sa11 sn12 sc13, .slice sa14 sn15 sc16, .slice sa17 sn18 sc19, .slice sa20 sn21 sc22]]) (fun ξ => cs.length - ξ.1) (0, (List.replicate c.n (0 : Int))) ⟨by first | omega | (dsimp only; omega), List.length_replicate, fun j v hv _ => by rw [List.getElem?_replicate] at hv; split at hv <;> cases hv; exact Int.natCast_nonneg _⟩ ((.cons rfl (.cons rfl (.cons rfl (.cons rfl (.cons rfl (.cons rfl (.cons rfl (.cons rfl (.cons rfl .nil)))))))))) rfl ?_
  rintro ⟨i, xs⟩ ⟨hi, hll, hlo⟩
  dsimp only at hi hll hlo
  refine Gx.know (m' := [(0, .int .i64 ((c.n : Nat) : Int)), (1, .int .i64 ((f : Nat) : Int)), (2, .int .u32 ((c.L : Nat) : Int)), (9, ptr b23 0), (11, v24), (12, v25), (41, sv), (42, .int .i64 ((cs.length : Nat) : Int)), (43, .int .i64 ((i : Nat) : Int))]) (.cons rfl (.cons rfl (.cons rfl (.cons rfl (.cons rfl (.cons rfl (.cons rfl (.cons rfl (.cons rfl .nil))))))))) (Gx.norm (l' := [Hp.own FI 1 v24 (popL c (stM c (ms0 c.n) cs).bl.length (stM c (ms0 c.n) (cs.take i))), Hp.own FI 1 v25 xs, Hp.rec_ b23 [.slice sa11 sn12 sc13, .slice sa14 sn15 sc16, .slice sa17 sn18 sc19, .slice sa20 sn21 sc22]]) rfl ?_)
  have bdi := BdM.at_ ok (cs.take i)
  have hml := bdi.mlen
  have hvl := bdi.vlen
  have hbi := (run_keep ok (cs.drop i) bdi)
  rw [← stM_app, List.take_append_drop] at hbi
  have hbi1 := hbi.1
  have hpl9 := popL_len c (stM c (ms0 c.n) cs).bl.length (stM c (ms0 c.n) (cs.take i))
  refine Gx.seq ?_
  refine Gx.region ?_
  refine Gx.val rfl rfl rfl (val_lss rfl rfl rfl) ?_
  refine Gx.done ?_
  refine Gx.thenN ?_
  refine Gx.seq ?_
  refine Gx.dec rfl (fun h26 => ?_) (fun h26 => ?_)
  · refine Gx.skip ?_
    refine Gx.thenN ?_
    refine Gx.seq ?_
    refine Gx.block ?_
    refine Gx.seq ?_
    refine Gx.region ?_
    refine Gx.val rfl rfl rfl (val_move rfl rfl) ?_
    obtain ⟨x27, hx27⟩ := get_of_lt (xs := cs) (k := i) (by first | omega | (simp; omega))
    refine Gx.val rfl rfl rfl (val_ixa rfl Try.underlying23 Try.ty42 rfl rfl (j := i) (rfl) (reach_base hs10 hx27)) ?_
    refine Gx.val rfl rfl rfl (Val.cast (val_loadA rfl Try.ty42 rfl rfl rfl (cells_base hs10 hx27)) (v' := .agg #[.int .i64 x27.kind, .int .i64 x27.who, .int .i64 x27.blk, .int .i64 x27.rnd, .int .i64 x27.hi]) rfl) ?_
    refine Gx.eff rfl rfl rfl (eff_alloc rfl Try.ty42 (vs := [.int .i64 0, .int .i64 0, .int .i64 0, .int .i64 0, .int .i64 0]) rfl) ?_
    rintro _ _ ⟨b28, rfl, rfl⟩
    refine Gx.val rfl rfl rfl (val_assign rfl rfl) ?_
    refine Gx.eff0 rfl rfl (eff_store rfl Try.ty42 rfl rfl (us := [.int .i64 x27.kind, .int .i64 x27.who, .int .i64 x27.blk, .int .i64 x27.rnd, .int .i64 x27.hi]) rfl rfl rfl (k := 0) rfl (rfl) (vs' := [.int .i64 x27.kind, .int .i64 x27.who, .int .i64 x27.blk, .int .i64 x27.rnd, .int .i64 x27.hi]) (rfl) (l' := [Hp.rec_ b28 [.int .i64 x27.kind, .int .i64 x27.who, .int .i64 x27.blk, .int .i64 x27.rnd, .int .i64 x27.hi], Hp.own FI 1 v24 (popL c (stM c (ms0 c.n) cs).bl.length (stM c (ms0 c.n) (cs.take i))), Hp.own FI 1 v25 xs, Hp.rec_ b23 [.slice sa11 sn12 sc13, .slice sa14 sn15 sc16, .slice sa17 sn18 sc19, .slice sa20 sn21 sc22]]) rfl) ?_
    rintro _ _ rfl
    refine Gx.done ?_
    refine Gx.thenN ?_
    refine Gx.seq ?_
    refine Gx.seq ?_
    have hkc := codes_at cs (c := c) (s := ms0 c.n) hx27
    rcases step_vote c (stM c (ms0 c.n) (cs.take i)) x27 _ bdi ok with ⟨hvk, hvc, i0, b0, hwho, hblk, hi0, hb0, hbl, hbit, hag, hst⟩ | hvB
    · have hgg := step_chg c (stM c (ms0 c.n) (cs.take i)) x27
      rw [hst] at hgg
      obtain ⟨xb, hxb0⟩ := get_of_lt (xs := (stM c (ms0 c.n) (cs.take i)).bl) (k := b0) hbl
      have hxb : (stM c (ms0 c.n) cs).bl[b0]? = some xb := by rw [hbi.2.1 b0 hbl]; exact hxb0
      have hrx : ((rndM (stM c (ms0 c.n) (cs.take i)) b0 : Nat) : Int) = ((xb.rnd : Nat) : Int) := by rw [rndM_of hxb0]
      obtain ⟨vl, hvl0⟩ := get_of_lt (xs := xs) (k := i0) (by omega)
      have hp32 := pop_lt (x := voteM (stM c (ms0 c.n) (cs.take i)) b0)
      refine Gx.region ?_
      refine Gx.val rfl rfl rfl (Val.cast (val_fieldAddr rfl Try.underlying42 rfl Try.ty3 rfl rfl) (v' := ptr b28 0) rfl) ?_
      refine Gx.val rfl rfl rfl (val_load rfl Try.ty3 rfl rfl (cell_rec (k := 0) rfl rfl)) ?_
      refine Gx.val rfl rfl rfl (val_neq rfl rfl rfl) ?_
      refine Gx.val rfl rfl rfl (val_move rfl rfl) ?_
      refine Gx.slot (t := 51) (v := .bool false) (look_decF rfl (by omega)) ?_
      refine Gx.valg rfl rfl rfl rfl rfl (Val.cast (val_fieldAddr rfl Try.underlying28 rfl Try.ty24 rfl rfl) (v' := ptr b23 0) rfl) ?_
      refine Gx.valg rfl rfl rfl rfl rfl (val_load rfl Try.ty24 rfl rfl (cell_rec (k := 3) rfl rfl)) ?_
      refine Gx.valg rfl rfl rfl rfl rfl (val_move rfl rfl) ?_
      refine Gx.valg rfl rfl rfl rfl rfl (val_ixa rfl Try.underlying24 Try.ty29 rfl rfl (j := i) (rfl) (reach_base hcv1 hkc)) ?_
      refine Gx.valg rfl rfl rfl rfl rfl (val_load rfl Try.ty29 rfl rfl (cell_base (i := 0) hcv1 hkc rfl)) ?_
      refine Gx.valg rfl rfl rfl rfl rfl (val_neq rfl rfl rfl) ?_
      refine Gx.val rfl rfl rfl (val_pickF rfl rfl rfl) ?_
      refine Gx.done ?_
      refine Gx.thenN ?_
      refine Gx.decF rfl (fun q => q hvc) ?_
      refine Gx.skip ?_
      refine Gx.thenN ?_
      refine Gx.seq ?_
      refine Gx.seq ?_
      refine Gx.region ?_
      refine Gx.val rfl rfl rfl (Val.cast (val_fieldAddr rfl Try.underlying28 rfl Try.ty25 rfl rfl) (v' := ptr b23 1) rfl) ?_
      refine Gx.val rfl rfl rfl (val_load rfl Try.ty25 rfl rfl (cell_rec (k := 3) rfl rfl)) ?_
      refine Gx.val rfl rfl rfl (val_len rfl Try.underlying25 rfl (len_base hbv2)) ?_
      refine Gx.val rfl rfl rfl (Val.cast (val_fieldAddr rfl Try.underlying42 rfl Try.ty3 rfl rfl) (v' := ptr b28 2) rfl) ?_
      refine Gx.val rfl rfl rfl (val_load rfl Try.ty3 rfl rfl (cell_rec (k := 0) rfl rfl)) ?_
      refine Gx.eff rfl rfl rfl (eff_buildSlice rfl (qs := [(0, .int .i64 x27.blk)]) rfl rfl (cs := #[.int .i64 x27.blk]) (vs := [.int .i64 x27.blk]) (E := 3) rfl (fun w => by first | (go_simp; done) | (go_simp; rfl))) ?_
      rintro _ _ ⟨b29, rfl, rfl⟩
      refine Gx.val rfl rfl rfl (val_call (vs := [.int .i64 ((((stM c (ms0 c.n) cs).bl).length : Nat) : Int), .slice (some ⟨b29, 0, none⟩) 1 1]) rfl Try.fn13 rfl (fun w H => inside_yes (rec_one (H.at_ (k := 0) rfl)) (by omega) (by omega))) ?_
      refine Gx.val rfl rfl rfl (Val.cast (val_not rfl rfl) (v' := .bool false) rfl) ?_
      refine Gx.val rfl rfl rfl (val_move rfl rfl) ?_
      refine Gx.valg rfl rfl rfl rfl rfl (val_move rfl rfl) ?_
      refine Gx.valg rfl rfl rfl rfl rfl (Val.cast (val_fieldAddr rfl Try.underlying42 rfl Try.ty3 rfl rfl) (v' := ptr b28 1) rfl) ?_
      refine Gx.valg rfl rfl rfl rfl rfl (val_load rfl Try.ty3 rfl rfl (cell_rec (k := 1) rfl rfl)) ?_
      refine Gx.effg rfl rfl rfl rfl rfl (eff_buildSlice rfl (qs := [(0, .int .i64 x27.who)]) rfl rfl (cs := #[.int .i64 x27.who]) (vs := [.int .i64 x27.who]) (E := 3) rfl (fun w => by first | (go_simp; done) | (go_simp; rfl))) ?_
      rintro _ _ ⟨b30, rfl, rfl⟩
      refine Gx.valg rfl rfl rfl rfl rfl (val_call (vs := [.int .i64 ((c.n : Nat) : Int), .slice (some ⟨b30, 0, none⟩) 1 1]) rfl Try.fn13 rfl (fun w H => inside_yes (rec_one (H.at_ (k := 0) rfl)) (by omega) (by omega))) ?_
      refine Gx.valg rfl rfl rfl rfl rfl (Val.cast (val_not rfl rfl) (v' := .bool false) rfl) ?_
      refine Gx.val rfl rfl rfl (val_pickF rfl rfl rfl) ?_
      refine Gx.done ?_
      refine Gx.thenN ?_
      refine Gx.f rfl ?_
      refine Gx.skip ?_
      refine Gx.thenN ?_
      refine Gx.seq ?_
      refine Gx.region ?_
      refine Gx.val rfl rfl rfl (Val.cast (val_fieldAddr rfl Try.underlying28 rfl Try.ty25 rfl rfl) (v' := ptr b23 1) rfl) ?_
      refine Gx.val rfl rfl rfl (val_load rfl Try.ty25 rfl rfl (cell_rec (k := 5) rfl rfl)) ?_
      refine Gx.val rfl rfl rfl (Val.cast (val_fieldAddr rfl Try.underlying42 rfl Try.ty3 rfl rfl) (v' := ptr b28 2) rfl) ?_
      refine Gx.val rfl rfl rfl (val_load rfl Try.ty3 rfl rfl (cell_rec (k := 2) rfl rfl)) ?_
      refine Gx.val rfl rfl rfl (val_ixa rfl Try.underlying25 Try.ty35 rfl rfl (j := b0) (hblk) (reach_base hbv2 hxb)) ?_
      refine Gx.val rfl rfl rfl (Val.cast (val_fieldAddr rfl Try.underlying35 rfl Try.ty3 rfl rfl) (v' := ptr (sB (.slice sa14 sn15 sc16)) (sO (.slice sa14 sn15 sc16) + b0 * 2 + 1)) rfl) ?_
      refine Gx.val rfl rfl rfl (val_load rfl Try.ty3 rfl rfl (cell_base (i := 1) hbv2 hxb rfl)) ?_
      refine Gx.val rfl rfl rfl (val_assign rfl rfl) ?_
      refine Gx.done ?_
      refine Gx.thenN ?_
      refine Gx.seq ?_
      refine Gx.seq ?_
      refine Gx.region ?_
      refine Gx.val rfl rfl rfl (val_move rfl rfl) ?_
      refine Gx.val rfl rfl rfl (Val.cast (val_fieldAddr rfl Try.underlying42 rfl Try.ty3 rfl rfl) (v' := ptr b28 1) rfl) ?_
      refine Gx.val rfl rfl rfl (val_load rfl Try.ty3 rfl rfl (cell_rec (k := 2) rfl rfl)) ?_
      refine Gx.val rfl rfl rfl (val_call (vs := [.int .u32 ((c.L : Nat) : Int), .int .i64 x27.who]) rfl Try.fn14 rfl (fun w H => bit_c hL hwho (by omega))) ?_
      refine Gx.val rfl rfl rfl (val_not rfl rfl) ?_
      refine Gx.done ?_
      refine Gx.thenN ?_
      refine Gx.bool rfl (fun h31 => ?_) (fun h31 => ?_)
      · refine Gx.seq ?_
        refine Gx.seq ?_
        refine Gx.region ?_
        refine Gx.val rfl rfl rfl (val_move rfl rfl) ?_
        refine Gx.val rfl rfl rfl (val_move rfl rfl) ?_
        refine Gx.val rfl rfl rfl (Val.cast (val_fieldAddr rfl Try.underlying42 rfl Try.ty3 rfl rfl) (v' := ptr b28 1) rfl) ?_
        refine Gx.val rfl rfl rfl (val_load rfl Try.ty3 rfl rfl (cell_rec (k := 2) rfl rfl)) ?_
        refine Gx.val rfl rfl rfl (val_ixa rfl Try.underlying37 Try.ty3 rfl rfl (j := i0) (hwho) (reach_own (k := 4) rfl hvl0)) ?_
        refine Gx.val rfl rfl rfl (val_load rfl Try.ty3 rfl rfl (cell_own (i := 0) (k := 4) rfl hvl0 rfl)) ?_
        refine Gx.val rfl rfl rfl (val_leq rfl rfl rfl) ?_
        refine Gx.done ?_
        refine Gx.thenN ?_
        refine Gx.decF rfl (by have q1 := hlo i0 vl hvl0 (show liesB c.L i0 = false by simpa using h31); have q2 := (agrees_iff.1 (hag (by simpa using h31))).1; omega) ?_
        refine Gx.skip ?_
        refine Gx.thenN ?_
        refine Gx.region ?_
        refine Gx.val rfl rfl rfl (val_move rfl rfl) ?_
        refine Gx.val rfl rfl rfl (Val.cast (val_fieldAddr rfl Try.underlying42 rfl Try.ty3 rfl rfl) (v' := ptr b28 1) rfl) ?_
        refine Gx.val rfl rfl rfl (val_load rfl Try.ty3 rfl rfl (cell_rec (k := 2) rfl rfl)) ?_
        refine Gx.val rfl rfl rfl (val_move rfl rfl) ?_
        refine Gx.val rfl rfl rfl (val_ixa rfl Try.underlying37 Try.ty3 rfl rfl (j := i0) (hwho) (reach_own (k := 4) rfl hvl0)) ?_
        refine Gx.eff0 rfl rfl (eff_storeElA ((xb.rnd : Nat) : Int) rfl Try.ty3 rfl rfl rfl FI_one (k := 4) rfl FI_len hvl0 (l' := [Hp.rec_ b30 [.int .i64 x27.who], Hp.rec_ b29 [.int .i64 x27.blk], Hp.rec_ b28 [.int .i64 x27.kind, .int .i64 x27.who, .int .i64 x27.blk, .int .i64 x27.rnd, .int .i64 x27.hi], Hp.own FI 1 v24 (popL c (stM c (ms0 c.n) cs).bl.length (stM c (ms0 c.n) (cs.take i))), Hp.own FI 1 v25 (xs.set i0 ((xb.rnd : Nat) : Int)), Hp.rec_ b23 [.slice sa11 sn12 sc13, .slice sa14 sn15 sc16, .slice sa17 sn18 sc19, .slice sa20 sn21 sc22]]) rfl) ?_
        rintro _ _ rfl
        refine Gx.done ?_
        refine Gx.thenN ?_
        refine Gx.regionO (fun j => false) 10 [0, 1, 2, 3, 4, 5, 6, 7, 8, 9] (fun _ => [Hp.rec_ b30 [.int .i64 x27.who], Hp.rec_ b29 [.int .i64 x27.blk], Hp.rec_ b28 [.int .i64 x27.kind, .int .i64 x27.who, .int .i64 x27.blk, .int .i64 x27.rnd, .int .i64 x27.hi], Hp.own FI 1 v24 (popL c (stM c (ms0 c.n) cs).bl.length (stM c (ms0 c.n) (cs.take i))), Hp.own FI 1 v25 (xs.set i0 ((xb.rnd : Nat) : Int)), Hp.rec_ b23 [.slice sa11 sn12 sc13, .slice sa14 sn15 sc16, .slice sa17 sn18 sc19, .slice sa20 sn21 sc22]]) Try.mixed (by kernel_rfl) rfl ?_
        refine Gw.val rfl rfl rfl rfl rfl (fun us => val_move rfl rfl) ?_
        refine Gw.val rfl rfl rfl rfl rfl (fun us => Val.cast (val_fieldAddr rfl Try.underlying42 rfl Try.ty3 rfl rfl) (v' := ptr b28 2) rfl) ?_
        refine Gw.val0 rfl rfl rfl (by kernel_rfl) rfl rfl (val_load rfl Try.ty3 rfl rfl (cell_rec (k := 2) rfl rfl)) ?_
        refine Gw.val rfl rfl rfl rfl rfl (fun us => val_move rfl rfl) ?_
        refine Gw.val rfl rfl rfl rfl rfl (fun us => Val.cast (val_fieldAddr rfl Try.underlying42 rfl Try.ty3 rfl rfl) (v' := ptr b28 2) rfl) ?_
        refine Gw.val0 rfl rfl rfl (by kernel_rfl) rfl rfl (val_load rfl Try.ty3 rfl rfl (cell_rec (k := 2) rfl rfl)) ?_
        refine Gw.val0 rfl rfl rfl (by kernel_rfl) rfl rfl (val_ixa rfl Try.underlying37 Try.ty3 rfl rfl (j := b0) (hblk) (reach_own (k := 3) rfl (popL_at (by omega)))) ?_
        refine Gw.val0 rfl rfl rfl (by kernel_rfl) rfl rfl (val_load rfl Try.ty3 rfl rfl (cell_own (i := 0) (k := 3) rfl (popL_at (by omega)) rfl)) ?_
        refine Gw.val rfl rfl rfl rfl rfl (fun us => val_add rfl rfl rfl (r := (((pop (voteM (stM c (ms0 c.n) (cs.take i)) b0) : Nat) : Int) + 1)) (w64 rfl (by omega))) ?_
        refine Gw.val0 rfl rfl rfl (by kernel_rfl) rfl rfl (val_ixa rfl Try.underlying37 Try.ty3 rfl rfl (j := b0) (hblk) (reach_own (k := 3) rfl (popL_at (by omega)))) ?_
        refine Gw.done ?_
        refine Gx.norm (l' := [Hp.rec_ b30 [.int .i64 x27.who], Hp.rec_ b29 [.int .i64 x27.blk], Hp.rec_ b28 [.int .i64 x27.kind, .int .i64 x27.who, .int .i64 x27.blk, .int .i64 x27.rnd, .int .i64 x27.hi], Hp.own FI 1 v24 (popL c (stM c (ms0 c.n) cs).bl.length (stM c (ms0 c.n) (cs.take i))), Hp.own FI 1 v25 (xs.set i0 ((xb.rnd : Nat) : Int)), Hp.rec_ b23 [.slice sa11 sn12 sc13, .slice sa14 sn15 sc16, .slice sa17 sn18 sc19, .slice sa20 sn21 sc22]]) rfl ?_
        refine Gx.eff0 rfl rfl (eff_storeElA (((pop (voteM (stM c (ms0 c.n) (cs.take i)) b0) : Nat) : Int) + 1) rfl Try.ty3 rfl rfl rfl FI_one (k := 3) rfl FI_len (popL_at (by omega)) (l' := [Hp.rec_ b30 [.int .i64 x27.who], Hp.rec_ b29 [.int .i64 x27.blk], Hp.rec_ b28 [.int .i64 x27.kind, .int .i64 x27.who, .int .i64 x27.blk, .int .i64 x27.rnd, .int .i64 x27.hi], Hp.own FI 1 v24 (((popL c (stM c (ms0 c.n) cs).bl.length (stM c (ms0 c.n) (cs.take i)))).set b0 (((pop (voteM (stM c (ms0 c.n) (cs.take i)) b0) : Nat) : Int) + 1)), Hp.own FI 1 v25 (xs.set i0 ((xb.rnd : Nat) : Int)), Hp.rec_ b23 [.slice sa11 sn12 sc13, .slice sa14 sn15 sc16, .slice sa17 sn18 sc19, .slice sa20 sn21 sc22]]) rfl) ?_
        rintro _ _ rfl
        refine Gx.done ?_
        refine Gx.blkN ?_
        refine Gx.thenN ?_
        refine Gx.region ?_
        refine Gx.val rfl rfl rfl (val_add rfl rfl rfl (r := ((i + 1 : Nat) : Int)) (w64 (by omega) (by omega))) ?_
        refine Gx.val rfl rfl rfl (val_move rfl rfl) ?_
        refine Gx.done ?_
        refine Gx.thenN ?_
        refine Gx.drop 2 rfl ?_
        refine Gx.drop 1 rfl ?_
        refine Gx.drop 0 rfl ?_
        have hst9 : stM c (ms0 c.n) (cs.take (i + 1)) = votedM c (stM c (ms0 c.n) (cs.take i)) i0 b0 := by rw [stM_snoc hx27, hst]
        refine Gx.norm (l' := [Hp.own FI 1 v24 (popL c (stM c (ms0 c.n) cs).bl.length (stM c (ms0 c.n) (cs.take (i + 1)))), Hp.own FI 1 v25 (xs.set i0 ((xb.rnd : Nat) : Int)), Hp.rec_ b23 [.slice sa11 sn12 sc13, .slice sa14 sn15 sc16, .slice sa17 sn18 sc19, .slice sa20 sn21 sc22]]) (by rw [hst9, popL_voted (by omega) (by omega) hbit] <;> rfl) ?_
        exact Gx.round (i + 1, xs.set i0 ((xb.rnd : Nat) : Int)) ⟨by first | omega | (dsimp only; omega), by simp only [List.length_set]; exact hll, by rw [hst9]; rw [← hrx]; exact hlo.set hgg hml (by omega) (show liesB c.L i0 = false by simpa using h31)⟩ (by first | omega | (dsimp only; omega)) ((.cons rfl (.cons rfl (.cons rfl (.cons rfl (.cons rfl (.cons rfl (.cons rfl (.cons rfl (.cons rfl .nil)))))))))) rfl
      · refine Gx.skip ?_
        refine Gx.thenN ?_
        refine Gx.regionO (fun j => false) 10 [0, 1, 2, 3, 4, 5, 6, 7, 8, 9] (fun _ => [Hp.rec_ b30 [.int .i64 x27.who], Hp.rec_ b29 [.int .i64 x27.blk], Hp.rec_ b28 [.int .i64 x27.kind, .int .i64 x27.who, .int .i64 x27.blk, .int .i64 x27.rnd, .int .i64 x27.hi], Hp.own FI 1 v24 (popL c (stM c (ms0 c.n) cs).bl.length (stM c (ms0 c.n) (cs.take i))), Hp.own FI 1 v25 xs, Hp.rec_ b23 [.slice sa11 sn12 sc13, .slice sa14 sn15 sc16, .slice sa17 sn18 sc19, .slice sa20 sn21 sc22]]) Try.mixed (by kernel_rfl) rfl ?_
        refine Gw.val rfl rfl rfl rfl rfl (fun us => val_move rfl rfl) ?_
        refine Gw.val rfl rfl rfl rfl rfl (fun us => Val.cast (val_fieldAddr rfl Try.underlying42 rfl Try.ty3 rfl rfl) (v' := ptr b28 2) rfl) ?_
        refine Gw.val0 rfl rfl rfl (by kernel_rfl) rfl rfl (val_load rfl Try.ty3 rfl rfl (cell_rec (k := 2) rfl rfl)) ?_
        refine Gw.val rfl rfl rfl rfl rfl (fun us => val_move rfl rfl) ?_
        refine Gw.val rfl rfl rfl rfl rfl (fun us => Val.cast (val_fieldAddr rfl Try.underlying42 rfl Try.ty3 rfl rfl) (v' := ptr b28 2) rfl) ?_
        refine Gw.val0 rfl rfl rfl (by kernel_rfl) rfl rfl (val_load rfl Try.ty3 rfl rfl (cell_rec (k := 2) rfl rfl)) ?_
        refine Gw.val0 rfl rfl rfl (by kernel_rfl) rfl rfl (val_ixa rfl Try.underlying37 Try.ty3 rfl rfl (j := b0) (hblk) (reach_own (k := 3) rfl (popL_at (by omega)))) ?_
        refine Gw.val0 rfl rfl rfl (by kernel_rfl) rfl rfl (val_load rfl Try.ty3 rfl rfl (cell_own (i := 0) (k := 3) rfl (popL_at (by omega)) rfl)) ?_
        refine Gw.val rfl rfl rfl rfl rfl (fun us => val_add rfl rfl rfl (r := (((pop (voteM (stM c (ms0 c.n) (cs.take i)) b0) : Nat) : Int) + 1)) (w64 rfl (by omega))) ?_
        refine Gw.val0 rfl rfl rfl (by kernel_rfl) rfl rfl (val_ixa rfl Try.underlying37 Try.ty3 rfl rfl (j := b0) (hblk) (reach_own (k := 3) rfl (popL_at (by omega)))) ?_
        refine Gw.done ?_
        refine Gx.norm (l' := [Hp.rec_ b30 [.int .i64 x27.who], Hp.rec_ b29 [.int .i64 x27.blk], Hp.rec_ b28 [.int .i64 x27.kind, .int .i64 x27.who, .int .i64 x27.blk, .int .i64 x27.rnd, .int .i64 x27.hi], Hp.own FI 1 v24 (popL c (stM c (ms0 c.n) cs).bl.length (stM c (ms0 c.n) (cs.take i))), Hp.own FI 1 v25 xs, Hp.rec_ b23 [.slice sa11 sn12 sc13, .slice sa14 sn15 sc16, .slice sa17 sn18 sc19, .slice sa20 sn21 sc22]]) rfl ?_
        refine Gx.eff0 rfl rfl (eff_storeElA (((pop (voteM (stM c (ms0 c.n) (cs.take i)) b0) : Nat) : Int) + 1) rfl Try.ty3 rfl rfl rfl FI_one (k := 3) rfl FI_len (popL_at (by omega)) (l' := [Hp.rec_ b30 [.int .i64 x27.who], Hp.rec_ b29 [.int .i64 x27.blk], Hp.rec_ b28 [.int .i64 x27.kind, .int .i64 x27.who, .int .i64 x27.blk, .int .i64 x27.rnd, .int .i64 x27.hi], Hp.own FI 1 v24 (((popL c (stM c (ms0 c.n) cs).bl.length (stM c (ms0 c.n) (cs.take i)))).set b0 (((pop (voteM (stM c (ms0 c.n) (cs.take i)) b0) : Nat) : Int) + 1)), Hp.own FI 1 v25 xs, Hp.rec_ b23 [.slice sa11 sn12 sc13, .slice sa14 sn15 sc16, .slice sa17 sn18 sc19, .slice sa20 sn21 sc22]]) rfl) ?_
        rintro _ _ rfl
        refine Gx.done ?_
        refine Gx.blkN ?_
        refine Gx.thenN ?_
        refine Gx.region ?_
        refine Gx.val rfl rfl rfl (val_add rfl rfl rfl (r := ((i + 1 : Nat) : Int)) (w64 (by omega) (by omega))) ?_
        refine Gx.val rfl rfl rfl (val_move rfl rfl) ?_
        refine Gx.done ?_
        refine Gx.thenN ?_
        refine Gx.drop 2 rfl ?_
        refine Gx.drop 1 rfl ?_
        refine Gx.drop 0 rfl ?_
        have hst9 : stM c (ms0 c.n) (cs.take (i + 1)) = votedM c (stM c (ms0 c.n) (cs.take i)) i0 b0 := by rw [stM_snoc hx27, hst]
        refine Gx.norm (l' := [Hp.own FI 1 v24 (popL c (stM c (ms0 c.n) cs).bl.length (stM c (ms0 c.n) (cs.take (i + 1)))), Hp.own FI 1 v25 xs, Hp.rec_ b23 [.slice sa11 sn12 sc13, .slice sa14 sn15 sc16, .slice sa17 sn18 sc19, .slice sa20 sn21 sc22]]) (by rw [hst9, popL_voted (by omega) (by omega) hbit] <;> rfl) ?_
        exact Gx.round (i + 1, xs) ⟨by first | omega | (dsimp only; omega), by simp only [List.length_set]; exact hll, by rw [hst9]; exact hlo.chg hgg hml⟩ (by first | omega | (dsimp only; omega)) ((.cons rfl (.cons rfl (.cons rfl (.cons rfl (.cons rfl (.cons rfl (.cons rfl (.cons rfl (.cons rfl .nil)))))))))) rfl
    · refine Gx.region ?_
      refine Gx.val rfl rfl rfl (Val.cast (val_fieldAddr rfl Try.underlying42 rfl Try.ty3 rfl rfl) (v' := ptr b28 0) rfl) ?_
      refine Gx.val rfl rfl rfl (val_load rfl Try.ty3 rfl rfl (cell_rec (k := 0) rfl rfl)) ?_
      refine Gx.val rfl rfl rfl (val_neq rfl rfl rfl) ?_
      refine Gx.val rfl rfl rfl (val_move rfl rfl) ?_
      refine Gx.cases (t := 51) rfl (fun h32 => ?_) (fun h32 => ?_)
      · refine Gx.skipg rfl rfl rfl rfl rfl rfl ?_
        refine Gx.skipg rfl rfl rfl rfl rfl rfl ?_
        refine Gx.skipg rfl rfl rfl rfl rfl rfl ?_
        refine Gx.skipg rfl rfl rfl rfl rfl rfl ?_
        refine Gx.skipg rfl rfl rfl rfl rfl rfl ?_
        refine Gx.skipg rfl rfl rfl rfl rfl rfl ?_
        refine Gx.val rfl rfl rfl (val_pickT rfl rfl rfl) ?_
        refine Gx.done ?_
        refine Gx.thenN ?_
        refine Gx.t rfl ?_
        refine Gx.exit ?_
        refine Gx.thenE ?_
        refine Gx.blkE ?_
        refine Gx.thenN ?_
        refine Gx.region ?_
        refine Gx.val rfl rfl rfl (val_add rfl rfl rfl (r := ((i + 1 : Nat) : Int)) (w64 (by omega) (by omega))) ?_
        refine Gx.val rfl rfl rfl (val_move rfl rfl) ?_
        refine Gx.done ?_
        refine Gx.thenN ?_
        refine Gx.drop 0 rfl ?_
        have hst9 : stM c (ms0 c.n) (cs.take (i + 1)) = (stepM c (stM c (ms0 c.n) (cs.take i)) x27).2 := stM_snoc hx27
        refine Gx.norm (l' := [Hp.own FI 1 v24 (popL c (stM c (ms0 c.n) cs).bl.length (stM c (ms0 c.n) (cs.take (i + 1)))), Hp.own FI 1 v25 xs, Hp.rec_ b23 [.slice sa11 sn12 sc13, .slice sa14 sn15 sc16, .slice sa17 sn18 sc19, .slice sa20 sn21 sc22]]) (by rw [hst9, popL_same hvB.2] <;> rfl) ?_
        exact Gx.round (i + 1, xs) ⟨by first | omega | (dsimp only; omega), by simp only [List.length_set]; exact hll, by rw [hst9]; exact hlo.chg (step_chg ..) hml⟩ (by first | omega | (dsimp only; omega)) ((.cons rfl (.cons rfl (.cons rfl (.cons rfl (.cons rfl (.cons rfl (.cons rfl (.cons rfl (.cons rfl .nil)))))))))) rfl
      · refine Gx.valg rfl rfl rfl rfl rfl (Val.cast (val_fieldAddr rfl Try.underlying28 rfl Try.ty24 rfl rfl) (v' := ptr b23 0) rfl) ?_
        refine Gx.valg rfl rfl rfl rfl rfl (val_load rfl Try.ty24 rfl rfl (cell_rec (k := 3) rfl rfl)) ?_
        refine Gx.valg rfl rfl rfl rfl rfl (val_move rfl rfl) ?_
        refine Gx.valg rfl rfl rfl rfl rfl (val_ixa rfl Try.underlying24 Try.ty29 rfl rfl (j := i) (rfl) (reach_base hcv1 hkc)) ?_
        refine Gx.valg rfl rfl rfl rfl rfl (val_load rfl Try.ty29 rfl rfl (cell_base (i := 0) hcv1 hkc rfl)) ?_
        refine Gx.valg rfl rfl rfl rfl rfl (val_neq rfl rfl rfl) ?_
        refine Gx.val rfl rfl rfl (val_pickF rfl rfl rfl) ?_
        refine Gx.done ?_
        refine Gx.thenN ?_
        refine Gx.decT rfl (fun q => hvB.1 ⟨by omega, q⟩) ?_
        refine Gx.exit ?_
        refine Gx.thenE ?_
        refine Gx.blkE ?_
        refine Gx.thenN ?_
        refine Gx.region ?_
        refine Gx.val rfl rfl rfl (val_add rfl rfl rfl (r := ((i + 1 : Nat) : Int)) (w64 (by omega) (by omega))) ?_
        refine Gx.val rfl rfl rfl (val_move rfl rfl) ?_
        refine Gx.done ?_
        refine Gx.thenN ?_
        refine Gx.drop 0 rfl ?_
        have hst9 : stM c (ms0 c.n) (cs.take (i + 1)) = (stepM c (stM c (ms0 c.n) (cs.take i)) x27).2 := stM_snoc hx27
        refine Gx.norm (l' := [Hp.own FI 1 v24 (popL c (stM c (ms0 c.n) cs).bl.length (stM c (ms0 c.n) (cs.take (i + 1)))), Hp.own FI 1 v25 xs, Hp.rec_ b23 [.slice sa11 sn12 sc13, .slice sa14 sn15 sc16, .slice sa17 sn18 sc19, .slice sa20 sn21 sc22]]) (by rw [hst9, popL_same hvB.2] <;> rfl) ?_
        exact Gx.round (i + 1, xs) ⟨by first | omega | (dsimp only; omega), by simp only [List.length_set]; exact hll, by rw [hst9]; exact hlo.chg (step_chg ..) hml⟩ (by first | omega | (dsimp only; omega)) ((.cons rfl (.cons rfl (.cons rfl (.cons rfl (.cons rfl (.cons rfl (.cons rfl (.cons rfl (.cons rfl .nil)))))))))) rfl
  · refine Gx.exit ?_
    refine Gx.thenE ?_
    refine Gx.thenE ?_
    refine Gx.blkE ?_
    refine Gx.thenN ?_
    refine Gx.seq ?_
    refine Gx.seq ?_
    obtain rfl : i = cs.length := by omega
    rw [List.take_length] at hpl9
    refine Gx.norm (l' := [Hp.own FI 1 v24 (popL c (stM c (ms0 c.n) cs).bl.length (stM c (ms0 c.n) cs)), Hp.own FI 1 v25 xs, Hp.rec_ b23 [.slice sa11 sn12 sc13, .slice sa14 sn15 sc16, .slice sa17 sn18 sc19, .slice sa20 sn21 sc22]]) (by rw [List.take_length] <;> rfl) ?_
    refine Gx.region ?_
    refine Gx.val rfl rfl rfl (val_assign rfl rfl) ?_
    refine Gx.done ?_
    refine Gx.thenN ?_
    refine Gx.block ?_
    refine Gx.drop 1 rfl ?_
    refine Gx.loop (ι := Nat) (fun ξ => (1 ≤ ξ) ∧ (ξ ≤ (stM c (ms0 c.n) cs).bl.length)) (fun ξ => [(0, .int .i64 ((c.n : Nat) : Int)), (1, .int .i64 ((f : Nat) : Int)), (9, ptr b23 0), (11, v24), (16, .int .i64 ((ξ : Nat) : Int))]) (fun ξ => [Hp.own FI 1 v24 (popL c (stM c (ms0 c.n) cs).bl.length (stM c (ms0 c.n) cs)), Hp.rec_ b23 [.slice sa11 sn12 sc13, .slice sa14 sn15 sc16, .slice sa17 sn18 sc19, .slice sa20 sn21 sc22]]) (fun ξ => (stM c (ms0 c.n) cs).bl.length - ξ) 1 ⟨by first | omega | (dsimp only; omega), by first | omega | (dsimp only; omega)⟩ ((.cons rfl (.cons rfl (.cons rfl (.cons rfl (.cons rfl .nil)))))) rfl ?_
    rintro b ⟨hb1, hb2⟩
    refine Gx.know (m' := [(0, .int .i64 ((c.n : Nat) : Int)), (1, .int .i64 ((f : Nat) : Int)), (9, ptr b23 0), (11, v24), (16, .int .i64 ((b : Nat) : Int))]) (.cons rfl (.cons rfl (.cons rfl (.cons rfl (.cons rfl .nil))))) (Gx.norm (l' := [Hp.own FI 1 v24 (popL c (stM c (ms0 c.n) cs).bl.length (stM c (ms0 c.n) cs)), Hp.rec_ b23 [.slice sa11 sn12 sc13, .slice sa14 sn15 sc16, .slice sa17 sn18 sc19, .slice sa20 sn21 sc22]]) rfl ?_)
    refine Gx.seq ?_
    refine Gx.seq ?_
    refine Gx.region ?_
    refine Gx.val rfl rfl rfl (val_move rfl rfl) ?_
    refine Gx.val rfl rfl rfl (Val.cast (val_fieldAddr rfl Try.underlying28 rfl Try.ty25 rfl rfl) (v' := ptr b23 1) rfl) ?_
    refine Gx.val rfl rfl rfl (val_load rfl Try.ty25 rfl rfl (cell_rec (k := 1) rfl rfl)) ?_
    refine Gx.val rfl rfl rfl (val_len rfl Try.underlying25 rfl (len_base hbv2)) ?_
    refine Gx.val rfl rfl rfl (val_lss rfl rfl rfl) ?_
    refine Gx.done ?_
    refine Gx.thenN ?_
    refine Gx.dec rfl (fun h33 => ?_) (fun h33 => ?_)
    · refine Gx.skip ?_
      refine Gx.thenN ?_
      refine Gx.seq ?_
      refine Gx.block ?_
      refine Gx.seq ?_
      obtain ⟨y, hy⟩ := get_of_lt (xs := certL c (stM c (ms0 c.n) cs)) (k := b) (by omega)
      have hyv := cert_val hy (by omega)
      refine Gx.regionQ Try.mixed (by kernel_rfl) ?_
      refine Gq.val rfl rfl rfl (Val.cast (val_fieldAddr rfl Try.underlying28 rfl Try.ty26 rfl rfl) (v' := ptr b23 2) rfl) ?_
      refine Gq.val rfl rfl rfl (val_load rfl Try.ty26 rfl rfl (cell_rec (k := 1) rfl rfl)) ?_
      refine Gq.val rfl rfl rfl (val_move rfl rfl) ?_
      refine Gq.val rfl rfl rfl (val_ixa rfl Try.underlying26 Try.ty4 rfl rfl (j := b) (rfl) (reach_base hwv3 hy)) ?_
      refine Gq.val rfl rfl rfl (val_load rfl Try.ty4 rfl rfl (cell_base (i := 0) hwv3 hy rfl)) ?_
      refine Gq.val rfl rfl rfl (val_move rfl rfl) ?_
      refine Gq.val rfl rfl rfl (val_move rfl rfl) ?_
      refine Gq.val rfl rfl rfl (val_ixa rfl Try.underlying37 Try.ty3 rfl rfl (j := b) (rfl) (reach_own (k := 0) rfl (popL_at (by omega)))) ?_
      refine Gq.val rfl rfl rfl (val_load rfl Try.ty3 rfl rfl (cell_own (i := 0) (k := 0) rfl (popL_at (by omega)) rfl)) ?_
      refine Gq.val rfl rfl rfl (val_move rfl rfl) ?_
      refine Gq.val rfl rfl rfl (val_move rfl rfl) ?_
      refine Gq.val rfl rfl rfl (val_sub rfl rfl rfl (r := ((c.need : Nat) : Int)) (w64 (by omega) (by omega))) ?_
      refine Gq.val rfl rfl rfl (val_geq rfl rfl rfl) ?_
      refine Gq.val rfl rfl rfl (val_neqB Try.underlying4 rfl rfl rfl) ?_
      refine Gq.done ?_
      refine Gx.thenN ?_
      refine Gx.boolF rfl (by rw [hyv]; simp) ?_
      refine Gx.skip ?_
      refine Gx.blkN ?_
      refine Gx.thenN ?_
      refine Gx.region ?_
      refine Gx.val rfl rfl rfl (val_move rfl rfl) ?_
      refine Gx.val rfl rfl rfl (val_add rfl rfl rfl (r := ((b + 1 : Nat) : Int)) (w64 (by omega) (by omega))) ?_
      refine Gx.val rfl rfl rfl (val_assign rfl rfl) ?_
      refine Gx.done ?_
      refine Gx.thenN ?_
      exact Gx.round (b + 1) ⟨by first | omega | (dsimp only; omega), by first | omega | (dsimp only; omega)⟩ (by first | omega | (dsimp only; omega)) ((.cons rfl (.cons rfl (.cons rfl (.cons rfl (.cons rfl .nil)))))) rfl
    · refine Gx.exit ?_
      refine Gx.thenE ?_
      refine Gx.thenE ?_
      refine Gx.blkE ?_
      refine Gx.thenN ?_
      refine Gx.seq ?_
      obtain ⟨y0, hy0⟩ := get_of_lt (xs := certL c (stM c (ms0 c.n) cs)) (k := 0) (by omega)
      refine Gx.region ?_
      refine Gx.val rfl rfl rfl (Val.cast (val_fieldAddr rfl Try.underlying28 rfl Try.ty26 rfl rfl) (v' := ptr b23 2) rfl) ?_
      refine Gx.val rfl rfl rfl (val_load rfl Try.ty26 rfl rfl (cell_rec (k := 1) rfl rfl)) ?_
      refine Gx.val rfl rfl rfl (val_ixa rfl Try.underlying26 Try.ty4 rfl rfl (j := 0) (rfl) (reach_base hwv3 hy0)) ?_
      refine Gx.val rfl rfl rfl (val_load rfl Try.ty4 rfl rfl (cell_base (i := 0) (sz := 1) (j := 0) hwv3 hy0 rfl)) ?_
      refine Gx.val rfl rfl rfl (val_assign rfl rfl) ?_
      refine Gx.done ?_
      refine Gx.thenN ?_
      refine Gx.ret ?_
      refine Gx.ret1B hW9 Try.results7 rfl ?_
      exact congrArg Value.bool (cert_zero hy0)

theorem votes_any {W : World} {k f z : Int} {sv : Value} {cs : List Sy} (hz0 : 0 ≤ z) (hz1 : z < 4294967296) (hs : SlS FM 5 W sv cs) :
    Calls Try.prog 7 #[.int .i64 k, .int .i64 f, .int .u32 z, sv] W fun e w' => e = .returned (.bool true) ∧ Below W.heap.size W w' := by
  obtain ⟨L, rfl⟩ : ∃ L : Nat, z = (L : Int) := ⟨z.toNat, by omega⟩
  have hL : L < 4294967296 := by omega
  by_cases h : Valid k f L cs
  · obtain ⟨h1, h2, h3, h4, h5, h6⟩ := h
    obtain ⟨n, rfl⟩ : ∃ n : Nat, k = (n : Int) := ⟨k.toNat, by omega⟩
    obtain ⟨f', rfl⟩ : ∃ f' : Nat, f = (f' : Int) := ⟨f.toNat, by omega⟩
    rw [Int.toNat_natCast] at h5 h6
    exact votes_yes (c := ⟨n, n - f', L⟩) hs (by dsimp only; omega) (by dsimp only; omega) h3 (by dsimp only; omega) (by dsimp only; omega) h6 hL
  · exact votes_bad hs h
end Go.Proofs.Ytghnahckopokhaa
