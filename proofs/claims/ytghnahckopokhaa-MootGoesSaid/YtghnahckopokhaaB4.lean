/- It goes on. The walk. No condition. -/
import Derived.Test.YtghnahckopokhaaM5
import Derived.Test.YtghnahckopokhaaB2
namespace Go.Proofs.Ytghnahckopokhaa
open Go.RowKit
set_option linter.unusedVariables false
set_option linter.unusedSimpArgs false
set_option maxRecDepth 100000

theorem goes_bad {W : World} {k f : Int} {L : Nat} {sv : Value} {cs : List Sy} (hs : SlS FM 5 W sv cs) (hbad : ¬ Valid k f L cs) :
    Calls Try.prog 5 #[.int .i64 k, .int .i64 f, .int .u32 ((L : Nat) : Int), sv] W fun e w' => e = .returned (.bool true) ∧ Below W.heap.size W w' := by
  refine calls_pure (Gx.enter (l := []) Try.func5 rfl Try.ntmps5 rfl (Sat.start W) ?_)
  refine Gx.know (m' := [(0, .int .i64 k), (1, .int .i64 f), (2, .int .u32 ((L : Nat) : Int)), (3, sv)]) (.cons rfl (.cons rfl (.cons rfl (.cons rfl .nil)))) ?_
  refine Gx.seq ?_
  refine Gx.region ?_
  refine Gx.val rfl rfl rfl (val_assign rfl rfl) ?_
  refine Gx.done ?_
  refine Gx.thenN ?_
  refine Gx.seq ?_
  refine Gx.region ?_
  refine Gx.val rfl rfl rfl (val_move rfl rfl) ?_
  refine Gx.val rfl rfl rfl (val_move rfl rfl) ?_
  refine Gx.val rfl rfl rfl (val_move rfl rfl) ?_
  refine Gx.val rfl rfl rfl (val_move rfl rfl) ?_
  refine Gx.eff rfl rfl rfl (eff_callE (vs := [.int .i64 k, .int .i64 f, .int .u32 ((L : Nat) : Int), sv]) rfl Try.fn8 rfl (R := fun v => ∃ z : Int, z ≠ 0 ∧ v = .tuple #[.agg #[.slice none 0 0, .slice none 0 0, .slice none 0 0, .slice none 0 0], .int .i64 z]) (fun w H => play_bad (hs.below H.below) hbad)) ?_
  rintro _ _ ⟨⟨zz1, hzz2, rfl⟩, rfl⟩
  refine Gx.val rfl rfl rfl (val_move rfl rfl) ?_
  refine Gx.val rfl rfl rfl (val_extract rfl rfl rfl) ?_
  refine Gx.val rfl rfl rfl (val_extract rfl rfl rfl) ?_
  refine Gx.eff rfl rfl rfl (eff_alloc rfl Try.ty28 (vs := [.slice none 0 0, .slice none 0 0, .slice none 0 0, .slice none 0 0]) rfl) ?_
  rintro _ _ ⟨b3, rfl, rfl⟩
  refine Gx.eff0 rfl rfl (eff_store rfl Try.ty28 rfl rfl (us := [.slice none 0 0, .slice none 0 0, .slice none 0 0, .slice none 0 0]) rfl rfl rfl (k := 0) rfl (rfl) (vs' := [.slice none 0 0, .slice none 0 0, .slice none 0 0, .slice none 0 0]) (rfl) (l' := [Hp.rec_ b3 [.slice none 0 0, .slice none 0 0, .slice none 0 0, .slice none 0 0]]) rfl) ?_
  rintro _ _ rfl
  refine Gx.val rfl rfl rfl (val_assign rfl rfl) ?_
  refine Gx.done ?_
  refine Gx.thenN ?_
  refine Gx.seq ?_
  refine Gx.seq ?_
  refine Gx.region ?_
  refine Gx.val rfl rfl rfl (val_move rfl rfl) ?_
  refine Gx.val rfl rfl rfl (val_neq rfl rfl rfl) ?_
  refine Gx.val rfl rfl rfl (val_move rfl rfl) ?_
  refine Gx.slot (t := 32) (v := .bool true) (look_decT rfl (by omega)) ?_
  refine Gx.skipg rfl rfl rfl rfl rfl rfl ?_
  refine Gx.skipg rfl rfl rfl rfl rfl rfl ?_
  refine Gx.skipg rfl rfl rfl rfl rfl rfl ?_
  refine Gx.skipg rfl rfl rfl rfl rfl rfl ?_
  refine Gx.val rfl rfl rfl (val_pickT rfl rfl rfl) ?_
  refine Gx.done ?_
  refine Gx.thenN ?_
  refine Gx.t rfl ?_
  refine Gx.seq ?_
  refine Gx.region ?_
  refine Gx.val rfl rfl rfl (val_move rfl rfl) ?_
  refine Gx.val rfl rfl rfl (val_neq rfl rfl rfl) ?_
  refine Gx.val rfl rfl rfl (val_assign rfl rfl) ?_
  refine Gx.done ?_
  refine Gx.thenN ?_
  refine Gx.ret ?_
  refine Gx.thenR ?_
  refine Gx.ret1 Try.results5 rfl ?_
  first | rfl | exact congrArg Value.bool (decide_eq_true (by omega))

theorem goesL_eq {cs : List Sy} {n k t a : Nat} : cs ++ pairsL k (t + 1) n ++ [blockS k (t + 2)] ++ votesL a n ++ [blockS a (t + 3)] ++ votesL (a + 1) n = cs ++ goesL n k t a := by unfold goesL; simp only [List.append_assoc]
theorem cert_on {c : MC} {s : MS} {b : Nat} {y : Bool} (hy : (certL c s)[b]? = some y) (h : certM c s b = true) : y = true := by
  have hl : b < s.bl.length := by have := (List.getElem?_eq_some_iff.1 hy).1; unfold certL at this; rwa [List.length_map, List.length_range] at this
  exact Option.some.inj (hy.symm.trans ((on_cert (c := c)).2 ⟨hl, h⟩))
set_option maxHeartbeats 4000000 in
theorem goes_yes {W : World} {c : MC} {f : Nat} {sv : Value} {cs : List Sy} (hs : SlS FM 5 W sv cs) (h1n : 1 ≤ c.n) (h7n : c.n ≤ 7) (hcl : cs.length ≤ 120) (hf : f ≤ (c.n - 1) / 3) (hfn : c.need + f = c.n) (hLn : c.L >>> c.n = 0) (hL : c.L < 4294967296) :
    Calls Try.prog 5 #[.int .i64 ((c.n : Nat) : Int), .int .i64 ((f : Nat) : Int), .int .u32 ((c.L : Nat) : Int), sv] W fun e w' => e = .returned (.bool true) ∧ Below W.heap.size W w' := by
  have ok : OkM c := ⟨h7n, by omega, hL⟩
  have bd := BdM.at_ ok cs
  have iv := InvM.run ok cs (BdM.start c) (InvM.start c)
  have hb40 := bd.b40
  have hpos := bd.pos
  have hm9 := sls_bd hs
  refine calls_pure (Gx.enter (l := []) Try.func5 rfl Try.ntmps5 rfl (Sat.start W) ?_)
  refine Gx.know (m' := [(0, .int .i64 ((c.n : Nat) : Int)), (1, .int .i64 ((f : Nat) : Int)), (2, .int .u32 ((c.L : Nat) : Int)), (3, sv)]) (.cons rfl (.cons rfl (.cons rfl (.cons rfl .nil)))) ?_
  refine Gx.seq ?_
  refine Gx.region ?_
  refine Gx.val rfl rfl rfl (val_assign rfl rfl) ?_
  refine Gx.done ?_
  refine Gx.thenN ?_
  refine Gx.seq ?_
  refine Gx.region ?_
  refine Gx.val rfl rfl rfl (val_move rfl rfl) ?_
  refine Gx.val rfl rfl rfl (val_move rfl rfl) ?_
  refine Gx.val rfl rfl rfl (val_move rfl rfl) ?_
  refine Gx.val rfl rfl rfl (val_move rfl rfl) ?_
  refine Gx.callB rfl rfl rfl (vs := [.int .i64 ((c.n : Nat) : Int), .int .i64 ((f : Nat) : Int), .int .u32 ((c.L : Nat) : Int), sv]) rfl Try.fn8 rfl (R := fun v w' => ∃ (cv bv wv dv : Value) (ds : List Bool), v = .tuple #[.agg #[cv, bv, wv, dv], .int .i64 0] ∧ SlS FZ 1 w' cv (codesM c (ms0 c.n) cs) ∧ SlS FK 2 w' bv (stM c (ms0 c.n) cs).bl ∧ SlS FB 1 w' wv (certL c (stM c (ms0 c.n) cs)) ∧ SlS FB 1 w' dv ds ∧ Chn.IsDec (blsP (stM c (ms0 c.n) cs).bl) (certL c (stM c (ms0 c.n) cs)) (stM c (ms0 c.n) cs).bl.length ds) (fun w H => play_ok (hs.below H.below) h1n h7n (by omega) hf hfn hLn hL) ?_
  rintro _ W7 ⟨cv1, bv2, wv3, dv4, ds5, rfl, hcv1, hbv2, hwv3, hdv4, hds6⟩ H8
  have hW9 := H8.below
  have hs10 := hs.below H8.below
  have hclcv1 : (codesM c (ms0 c.n) cs).length = (cs).length := codesM_len ..
  have hwlcv1 : (certL c (stM c (ms0 c.n) cs)).length = (stM c (ms0 c.n) cs).bl.length := by unfold certL; rw [List.length_map, List.length_range]
  have hdlcv1 : ds5.length = (stM c (ms0 c.n) cs).bl.length := by rw [hds6.1, List.length_map]
  refine Gx.val rfl rfl rfl (val_move rfl rfl) ?_
  obtain ⟨sa11, sn12, sc13, rfl⟩ := hcv1.isS
  obtain ⟨sa14, sn15, sc16, rfl⟩ := hbv2.isS
  obtain ⟨sa17, sn18, sc19, rfl⟩ := hwv3.isS
  obtain ⟨sa20, sn21, sc22, rfl⟩ := hdv4.isS
  refine Gx.val rfl rfl rfl (val_extract rfl rfl rfl) ?_
  refine Gx.val rfl rfl rfl (val_extract rfl rfl rfl) ?_
  refine Gx.eff rfl rfl rfl (eff_alloc rfl Try.ty28 (vs := [.slice none 0 0, .slice none 0 0, .slice none 0 0, .slice none 0 0]) rfl) ?_
  rintro _ _ ⟨b23, rfl, rfl⟩
  refine Gx.eff0 rfl rfl (eff_store rfl Try.ty28 rfl rfl (us := [.slice sa11 sn12 sc13, .slice sa14 sn15 sc16, .slice sa17 sn18 sc19, .slice sa20 sn21 sc22]) rfl rfl rfl (k := 0) rfl (rfl) (vs' := [.slice sa11 sn12 sc13, .slice sa14 sn15 sc16, .slice sa17 sn18 sc19, .slice sa20 sn21 sc22]) (rfl) (l' := [Hp.rec_ b23 [.slice sa11 sn12 sc13, .slice sa14 sn15 sc16, .slice sa17 sn18 sc19, .slice sa20 sn21 sc22]]) rfl) ?_
  rintro _ _ rfl
  refine Gx.val rfl rfl rfl (val_assign rfl rfl) ?_
  refine Gx.done ?_
  refine Gx.thenN ?_
  refine Gx.seq ?_
  refine Gx.seq ?_
  refine Gx.region ?_
  refine Gx.val rfl rfl rfl (val_move rfl rfl) ?_
  refine Gx.val rfl rfl rfl (Val.cast (val_neq rfl rfl rfl) (v' := .bool false) rfl) ?_
  refine Gx.val rfl rfl rfl (val_move rfl rfl) ?_
  refine Gx.valg rfl rfl rfl rfl rfl (Val.cast (val_loadA rfl Try.ty28 rfl rfl rfl (cells_rec (k := 0) rfl)) (v' := .agg #[.slice sa11 sn12 sc13, .slice sa14 sn15 sc16, .slice sa17 sn18 sc19, .slice sa20 sn21 sc22]) rfl) ?_
  refine Gx.valg rfl rfl rfl rfl rfl (val_move rfl rfl) ?_
  refine Gx.valg rfl rfl rfl rfl rfl (val_call (vs := [.agg #[.slice sa11 sn12 sc13, .slice sa14 sn15 sc16, .slice sa17 sn18 sc19, .slice sa20 sn21 sc22], sv]) rfl Try.fn9 rfl (fun w H => met_yes (hcv1.below H.below) (hbv2.below H.below) (hwv3.below H.below) (hdv4.below H.below) (hs10.below H.below) (by omega) bd.okc (by omega) (by omega))) ?_
  refine Gx.valg rfl rfl rfl rfl rfl (Val.cast (val_not rfl rfl) (v' := .bool false) rfl) ?_
  refine Gx.val rfl rfl rfl (val_pickF rfl rfl rfl) ?_
  refine Gx.done ?_
  refine Gx.thenN ?_
  refine Gx.f rfl ?_
  refine Gx.skip ?_
  refine Gx.thenN ?_
  refine Gx.seq ?_
  refine Gx.seq ?_
  refine Gx.region ?_
  refine Gx.val rfl rfl rfl (val_move rfl rfl) ?_
  refine Gx.val rfl rfl rfl (val_move rfl rfl) ?_
  refine Gx.val rfl rfl rfl (val_move rfl rfl) ?_
  refine Gx.val rfl rfl rfl (val_call (vs := [.int .u32 ((c.L : Nat) : Int), .int .i64 ((c.n : Nat) : Int), .int .i64 ((f : Nat) : Int)]) rfl Try.fn10 rfl (fun w H => few_c hL (by omega) (by omega))) ?_
  refine Gx.val rfl rfl rfl (val_not rfl rfl) ?_
  refine Gx.val rfl rfl rfl (val_move rfl rfl) ?_
  refine Gx.casesB (t := 45) rfl (fun h24 => ?_) (fun h24 => ?_)
  · refine Gx.skipg rfl rfl rfl rfl rfl rfl ?_
    refine Gx.skipg rfl rfl rfl rfl rfl rfl ?_
    refine Gx.skipg rfl rfl rfl rfl rfl rfl ?_
    refine Gx.skipg rfl rfl rfl rfl rfl rfl ?_
    refine Gx.skipg rfl rfl rfl rfl rfl rfl ?_
    refine Gx.val rfl rfl rfl (val_pickT rfl rfl rfl) ?_
    refine Gx.val rfl rfl rfl (val_move rfl rfl) ?_
    refine Gx.skipg rfl rfl rfl rfl rfl rfl ?_
    refine Gx.skipg rfl rfl rfl rfl rfl rfl ?_
    refine Gx.skipg rfl rfl rfl rfl rfl rfl ?_
    refine Gx.skipg rfl rfl rfl rfl rfl rfl ?_
    refine Gx.skipg rfl rfl rfl rfl rfl rfl ?_
    refine Gx.skipg rfl rfl rfl rfl rfl rfl ?_
    refine Gx.skipg rfl rfl rfl rfl rfl rfl ?_
    refine Gx.val rfl rfl rfl (val_pickT rfl rfl rfl) ?_
    refine Gx.done ?_
    refine Gx.thenN ?_
    refine Gx.t rfl ?_
    refine Gx.seq ?_
    refine Gx.region ?_
    refine Gx.val rfl rfl rfl (val_assign rfl rfl) ?_
    refine Gx.done ?_
    refine Gx.thenN ?_
    refine Gx.ret ?_
    refine Gx.thenR ?_
    refine Gx.ret1B hW9 Try.results5 rfl ?_
    rfl
  · refine Gx.valg rfl rfl rfl rfl rfl (Val.cast (val_fieldAddr rfl Try.underlying28 rfl Try.ty25 rfl rfl) (v' := ptr b23 1) rfl) ?_
    refine Gx.valg rfl rfl rfl rfl rfl (val_load rfl Try.ty25 rfl rfl (cell_rec (k := 0) rfl rfl)) ?_
    refine Gx.valg rfl rfl rfl rfl rfl (val_len rfl Try.underlying25 rfl (len_base hbv2)) ?_
    refine Gx.valg rfl rfl rfl rfl rfl (val_add rfl rfl rfl (r := (((stM c (ms0 c.n) cs).bl.length + 2 : Nat) : Int)) (w64 (by omega) (by omega))) ?_
    refine Gx.valg rfl rfl rfl rfl rfl (val_gtr rfl rfl rfl) ?_
    refine Gx.val rfl rfl rfl (val_pickF rfl rfl rfl) ?_
    refine Gx.val rfl rfl rfl (val_move rfl rfl) ?_
    refine Gx.cases (t := 52) rfl (fun h25 => ?_) (fun h25 => ?_)
    · refine Gx.skipg rfl rfl rfl rfl rfl rfl ?_
      refine Gx.skipg rfl rfl rfl rfl rfl rfl ?_
      refine Gx.skipg rfl rfl rfl rfl rfl rfl ?_
      refine Gx.skipg rfl rfl rfl rfl rfl rfl ?_
      refine Gx.skipg rfl rfl rfl rfl rfl rfl ?_
      refine Gx.skipg rfl rfl rfl rfl rfl rfl ?_
      refine Gx.skipg rfl rfl rfl rfl rfl rfl ?_
      refine Gx.val rfl rfl rfl (val_pickT rfl rfl rfl) ?_
      refine Gx.done ?_
      refine Gx.thenN ?_
      refine Gx.t rfl ?_
      refine Gx.seq ?_
      refine Gx.region ?_
      refine Gx.val rfl rfl rfl (val_assign rfl rfl) ?_
      refine Gx.done ?_
      refine Gx.thenN ?_
      refine Gx.ret ?_
      refine Gx.thenR ?_
      refine Gx.ret1B hW9 Try.results5 rfl ?_
      rfl
    · refine Gx.valg rfl rfl rfl rfl rfl (val_move rfl rfl) ?_
      refine Gx.valg rfl rfl rfl rfl rfl (val_len rfl Try.underlying23 rfl (len_base hs10)) ?_
      refine Gx.valg rfl rfl rfl rfl rfl (val_move rfl rfl) ?_
      refine Gx.valg rfl rfl rfl rfl rfl (val_mul rfl rfl rfl (r := ((4 * c.n : Nat) : Int)) (w64 (by omega) (by omega))) ?_
      refine Gx.valg rfl rfl rfl rfl rfl (val_add rfl rfl rfl (r := ((cs.length + 4 * c.n : Nat) : Int)) (w64 (by omega) (by omega))) ?_
      refine Gx.valg rfl rfl rfl rfl rfl (val_add rfl rfl rfl (r := ((cs.length + 4 * c.n + 2 : Nat) : Int)) (w64 (by omega) (by omega))) ?_
      refine Gx.valg rfl rfl rfl rfl rfl (val_gtr rfl rfl rfl) ?_
      refine Gx.val rfl rfl rfl (val_pickF rfl rfl rfl) ?_
      refine Gx.done ?_
      refine Gx.thenN ?_
      refine Gx.dec rfl (fun h26 => ?_) (fun h26 => ?_)
      · refine Gx.seq ?_
        refine Gx.region ?_
        refine Gx.val rfl rfl rfl (val_assign rfl rfl) ?_
        refine Gx.done ?_
        refine Gx.thenN ?_
        refine Gx.ret ?_
        refine Gx.thenR ?_
        refine Gx.ret1B hW9 Try.results5 rfl ?_
        rfl
      · refine Gx.skip ?_
        refine Gx.thenN ?_
        refine Gx.seq ?_
        have hfw : Few c f := few_of h1n hf hfn (by simpa using h24)
        refine Gx.region ?_
        refine Gx.val rfl rfl rfl (val_assign rfl rfl) ?_
        refine Gx.done ?_
        refine Gx.thenN ?_
        refine Gx.seq ?_
        refine Gx.region ?_
        refine Gx.val rfl rfl rfl (val_assign rfl rfl) ?_
        refine Gx.done ?_
        refine Gx.thenN ?_
        refine Gx.seq ?_
        refine Gx.seq ?_
        refine Gx.region ?_
        refine Gx.val rfl rfl rfl (val_assign rfl rfl) ?_
        refine Gx.done ?_
        refine Gx.thenN ?_
        refine Gx.block ?_
        refine Gx.loop (ι := Nat × Nat × Nat) (fun ξ => (ξ.1 ≤ (stM c (ms0 c.n) cs).bl.length) ∧ (ξ.2.1 ≤ 1000) ∧ (ξ.2.2 < (stM c (ms0 c.n) cs).bl.length) ∧ (∀ b, b < ξ.1 → rndM (stM c (ms0 c.n) cs) b ≤ ξ.2.1) ∧ (certM c (stM c (ms0 c.n) cs) ξ.2.2 = true) ∧ (∀ b, b < ξ.1 → certM c (stM c (ms0 c.n) cs) b = true → rndM (stM c (ms0 c.n) cs) b ≤ rndM (stM c (ms0 c.n) cs) ξ.2.2)) (fun ξ => [(0, .int .i64 ((c.n : Nat) : Int)), (1, .int .i64 ((f : Nat) : Int)), (2, .int .u32 ((c.L : Nat) : Int)), (3, sv), (9, ptr b23 0), (13, .int .i64 ((ξ.1 : Nat) : Int)), (11, .int .i64 ((ξ.2.1 : Nat) : Int)), (12, .int .i64 ((ξ.2.2 : Nat) : Int))]) (fun ξ => [Hp.rec_ b23 [.slice sa11 sn12 sc13, .slice sa14 sn15 sc16, .slice sa17 sn18 sc19, .slice sa20 sn21 sc22]]) (fun ξ => (stM c (ms0 c.n) cs).bl.length - ξ.1) (0, 0, 0) ⟨by first | omega | (dsimp only; omega), Nat.zero_le _, hpos, fun b h => absurd h (Nat.not_lt_zero _), decide_eq_true (.inl rfl), fun b h => absurd h (Nat.not_lt_zero _)⟩ ((.cons rfl (.cons rfl (.cons rfl (.cons rfl (.cons rfl (.cons rfl (.cons rfl (.cons rfl .nil))))))))) rfl ?_
        rintro ⟨i, tp, bs⟩ ⟨hi, htp1, hbl, htp, hbc, hbm⟩
        dsimp only at hi htp1 hbl htp hbc hbm
        refine Gx.know (m' := [(0, .int .i64 ((c.n : Nat) : Int)), (1, .int .i64 ((f : Nat) : Int)), (2, .int .u32 ((c.L : Nat) : Int)), (3, sv), (9, ptr b23 0), (13, .int .i64 ((i : Nat) : Int)), (11, .int .i64 ((tp : Nat) : Int)), (12, .int .i64 ((bs : Nat) : Int))]) (.cons rfl (.cons rfl (.cons rfl (.cons rfl (.cons rfl (.cons rfl (.cons rfl (.cons rfl .nil)))))))) (Gx.norm (l' := [Hp.rec_ b23 [.slice sa11 sn12 sc13, .slice sa14 sn15 sc16, .slice sa17 sn18 sc19, .slice sa20 sn21 sc22]]) rfl ?_)
        refine Gx.seq ?_
        refine Gx.seq ?_
        refine Gx.region ?_
        refine Gx.val rfl rfl rfl (val_move rfl rfl) ?_
        refine Gx.val rfl rfl rfl (Val.cast (val_fieldAddr rfl Try.underlying28 rfl Try.ty25 rfl rfl) (v' := ptr b23 1) rfl) ?_
        refine Gx.val rfl rfl rfl (val_load rfl Try.ty25 rfl rfl (cell_rec (k := 0) rfl rfl)) ?_
        refine Gx.val rfl rfl rfl (val_len rfl Try.underlying25 rfl (len_base hbv2)) ?_
        refine Gx.val rfl rfl rfl (val_lss rfl rfl rfl) ?_
        refine Gx.done ?_
        refine Gx.thenN ?_
        refine Gx.dec rfl (fun h27 => ?_) (fun h27 => ?_)
        · refine Gx.skip ?_
          refine Gx.thenN ?_
          refine Gx.seq ?_
          refine Gx.block ?_
          refine Gx.seq ?_
          refine Gx.seq ?_
          obtain ⟨x, hx⟩ := get_of_lt (xs := (stM c (ms0 c.n) cs).bl) (k := i) (by omega)
          obtain ⟨xb, hxb⟩ := get_of_lt (xs := (stM c (ms0 c.n) cs).bl) (k := bs) (by omega)
          obtain ⟨y, hy⟩ := get_of_lt (xs := certL c (stM c (ms0 c.n) cs)) (k := i) (by omega)
          have hx9 := bd.rnd _ _ hx
          refine Gx.region ?_
          refine Gx.val rfl rfl rfl (Val.cast (val_fieldAddr rfl Try.underlying28 rfl Try.ty25 rfl rfl) (v' := ptr b23 1) rfl) ?_
          refine Gx.val rfl rfl rfl (val_load rfl Try.ty25 rfl rfl (cell_rec (k := 0) rfl rfl)) ?_
          refine Gx.val rfl rfl rfl (val_move rfl rfl) ?_
          refine Gx.val rfl rfl rfl (val_ixa rfl Try.underlying25 Try.ty35 rfl rfl (j := i) (rfl) (reach_base hbv2 hx)) ?_
          refine Gx.val rfl rfl rfl (Val.cast (val_fieldAddr rfl Try.underlying35 rfl Try.ty3 rfl rfl) (v' := ptr (sB (.slice sa14 sn15 sc16)) (sO (.slice sa14 sn15 sc16) + i * 2 + 1)) rfl) ?_
          refine Gx.val rfl rfl rfl (val_load rfl Try.ty3 rfl rfl (cell_base (i := 1) hbv2 hx rfl)) ?_
          refine Gx.val rfl rfl rfl (val_move rfl rfl) ?_
          refine Gx.val rfl rfl rfl (val_gtr rfl rfl rfl) ?_
          refine Gx.done ?_
          refine Gx.thenN ?_
          refine Gx.dec rfl (fun h28 => ?_) (fun h28 => ?_)
          · refine Gx.region ?_
            refine Gx.val rfl rfl rfl (Val.cast (val_fieldAddr rfl Try.underlying28 rfl Try.ty25 rfl rfl) (v' := ptr b23 1) rfl) ?_
            refine Gx.val rfl rfl rfl (val_load rfl Try.ty25 rfl rfl (cell_rec (k := 0) rfl rfl)) ?_
            refine Gx.val rfl rfl rfl (val_move rfl rfl) ?_
            refine Gx.val rfl rfl rfl (val_ixa rfl Try.underlying25 Try.ty35 rfl rfl (j := i) (rfl) (reach_base hbv2 hx)) ?_
            refine Gx.val rfl rfl rfl (Val.cast (val_fieldAddr rfl Try.underlying35 rfl Try.ty3 rfl rfl) (v' := ptr (sB (.slice sa14 sn15 sc16)) (sO (.slice sa14 sn15 sc16) + i * 2 + 1)) rfl) ?_
            refine Gx.val rfl rfl rfl (val_load rfl Try.ty3 rfl rfl (cell_base (i := 1) hbv2 hx rfl)) ?_
            refine Gx.val rfl rfl rfl (val_assign rfl rfl) ?_
            refine Gx.done ?_
            refine Gx.thenN ?_
            refine Gx.seq ?_
            refine Gx.regionQ Try.mixed (by kernel_rfl) ?_
            refine Gq.val rfl rfl rfl (Val.cast (val_fieldAddr rfl Try.underlying28 rfl Try.ty26 rfl rfl) (v' := ptr b23 2) rfl) ?_
            refine Gq.val rfl rfl rfl (val_load rfl Try.ty26 rfl rfl (cell_rec (k := 0) rfl rfl)) ?_
            refine Gq.val rfl rfl rfl (val_move rfl rfl) ?_
            refine Gq.val rfl rfl rfl (val_ixa rfl Try.underlying26 Try.ty4 rfl rfl (j := i) (rfl) (reach_base hwv3 hy)) ?_
            refine Gq.val rfl rfl rfl (val_load rfl Try.ty4 rfl rfl (cell_base (i := 0) hwv3 hy rfl)) ?_
            refine Gq.val rfl rfl rfl (val_move rfl rfl) ?_
            refine Gq.casesB (t := 87) rfl (fun h29 => ?_) (fun h29 => ?_)
            · refine Gq.valg rfl rfl rfl rfl rfl (Val.cast (val_fieldAddr rfl Try.underlying28 rfl Try.ty25 rfl rfl) (v' := ptr b23 1) rfl) ?_
              refine Gq.valg rfl rfl rfl rfl rfl (val_load rfl Try.ty25 rfl rfl (cell_rec (k := 0) rfl rfl)) ?_
              refine Gq.valg rfl rfl rfl rfl rfl (val_move rfl rfl) ?_
              refine Gq.valg rfl rfl rfl rfl rfl (val_ixa rfl Try.underlying25 Try.ty35 rfl rfl (j := i) (rfl) (reach_base hbv2 hx)) ?_
              refine Gq.valg rfl rfl rfl rfl rfl (Val.cast (val_fieldAddr rfl Try.underlying35 rfl Try.ty3 rfl rfl) (v' := ptr (sB (.slice sa14 sn15 sc16)) (sO (.slice sa14 sn15 sc16) + i * 2 + 1)) rfl) ?_
              refine Gq.valg rfl rfl rfl rfl rfl (val_load rfl Try.ty3 rfl rfl (cell_base (i := 1) hbv2 hx rfl)) ?_
              refine Gq.valg rfl rfl rfl rfl rfl (Val.cast (val_fieldAddr rfl Try.underlying28 rfl Try.ty25 rfl rfl) (v' := ptr b23 1) rfl) ?_
              refine Gq.valg rfl rfl rfl rfl rfl (val_load rfl Try.ty25 rfl rfl (cell_rec (k := 0) rfl rfl)) ?_
              refine Gq.valg rfl rfl rfl rfl rfl (val_move rfl rfl) ?_
              refine Gq.valg rfl rfl rfl rfl rfl (val_ixa rfl Try.underlying25 Try.ty35 rfl rfl (j := bs) (rfl) (reach_base hbv2 hxb)) ?_
              refine Gq.valg rfl rfl rfl rfl rfl (Val.cast (val_fieldAddr rfl Try.underlying35 rfl Try.ty3 rfl rfl) (v' := ptr (sB (.slice sa14 sn15 sc16)) (sO (.slice sa14 sn15 sc16) + bs * 2 + 1)) rfl) ?_
              refine Gq.valg rfl rfl rfl rfl rfl (val_load rfl Try.ty3 rfl rfl (cell_base (i := 1) hbv2 hxb rfl)) ?_
              refine Gq.valg rfl rfl rfl rfl rfl (val_gtr rfl rfl rfl) ?_
              refine Gq.val rfl rfl rfl (val_pickT rfl rfl rfl) ?_
              refine Gq.done ?_
              refine Gx.thenN ?_
              refine Gx.dec rfl (fun h30 => ?_) (fun h30 => ?_)
              · refine Gx.region ?_
                refine Gx.val rfl rfl rfl (val_move rfl rfl) ?_
                refine Gx.val rfl rfl rfl (val_assign rfl rfl) ?_
                refine Gx.done ?_
                refine Gx.blkN ?_
                refine Gx.thenN ?_
                refine Gx.region ?_
                refine Gx.val rfl rfl rfl (val_move rfl rfl) ?_
                refine Gx.val rfl rfl rfl (val_add rfl rfl rfl (r := ((i + 1 : Nat) : Int)) (w64 (by omega) (by omega))) ?_
                refine Gx.val rfl rfl rfl (val_assign rfl rfl) ?_
                refine Gx.done ?_
                refine Gx.thenN ?_
                exact Gx.round (i + 1, x.rnd, i) ⟨by first | omega | (dsimp only; omega), by first | omega | (dsimp only; omega), by first | omega | (dsimp only; omega), fun b hb => by
                  rcases Nat.lt_or_ge b i with q | q
                  · have := htp b q; (try dsimp only); omega
                  · obtain rfl : b = i := by (try dsimp only at hb); omega
                    rw [rndM_of hx]; (try dsimp only); omega, cert_at hy h29, fun b hb hc => by
                  rw [rndM_of hx]
                  rcases Nat.lt_or_ge b i with q | q
                  · have := hbm b q hc; rw [rndM_of hxb] at this; omega
                  · obtain rfl : b = i := by (try dsimp only at hb); omega
                    rw [rndM_of hx]; exact Nat.le_refl _⟩ (by first | omega | (dsimp only; omega)) ((.cons rfl (.cons rfl (.cons rfl (.cons rfl (.cons rfl (.cons rfl (.cons rfl (.cons rfl .nil))))))))) rfl
              · refine Gx.skip ?_
                refine Gx.blkN ?_
                refine Gx.thenN ?_
                refine Gx.region ?_
                refine Gx.val rfl rfl rfl (val_move rfl rfl) ?_
                refine Gx.val rfl rfl rfl (val_add rfl rfl rfl (r := ((i + 1 : Nat) : Int)) (w64 (by omega) (by omega))) ?_
                refine Gx.val rfl rfl rfl (val_assign rfl rfl) ?_
                refine Gx.done ?_
                refine Gx.thenN ?_
                exact Gx.round (i + 1, x.rnd, bs) ⟨by first | omega | (dsimp only; omega), by first | omega | (dsimp only; omega), by first | omega | (dsimp only; omega), fun b hb => by
                  rcases Nat.lt_or_ge b i with q | q
                  · have := htp b q; (try dsimp only); omega
                  · obtain rfl : b = i := by (try dsimp only at hb); omega
                    rw [rndM_of hx]; (try dsimp only); omega, hbc, fun b hb hc => by
                  rcases Nat.lt_or_ge b i with q | q
                  · exact hbm b q hc
                  · obtain rfl : b = i := by (try dsimp only at hb); omega
                    rw [rndM_of hx, rndM_of hxb]; omega⟩ (by first | omega | (dsimp only; omega)) ((.cons rfl (.cons rfl (.cons rfl (.cons rfl (.cons rfl (.cons rfl (.cons rfl (.cons rfl .nil))))))))) rfl
            · refine Gq.skipg rfl rfl rfl rfl rfl rfl ?_
              refine Gq.skipg rfl rfl rfl rfl rfl rfl ?_
              refine Gq.skipg rfl rfl rfl rfl rfl rfl ?_
              refine Gq.skipg rfl rfl rfl rfl rfl rfl ?_
              refine Gq.skipg rfl rfl rfl rfl rfl rfl ?_
              refine Gq.skipg rfl rfl rfl rfl rfl rfl ?_
              refine Gq.skipg rfl rfl rfl rfl rfl rfl ?_
              refine Gq.skipg rfl rfl rfl rfl rfl rfl ?_
              refine Gq.skipg rfl rfl rfl rfl rfl rfl ?_
              refine Gq.skipg rfl rfl rfl rfl rfl rfl ?_
              refine Gq.skipg rfl rfl rfl rfl rfl rfl ?_
              refine Gq.skipg rfl rfl rfl rfl rfl rfl ?_
              refine Gq.skipg rfl rfl rfl rfl rfl rfl ?_
              refine Gq.val rfl rfl rfl (val_pickF rfl rfl rfl) ?_
              refine Gq.done ?_
              refine Gx.thenN ?_
              refine Gx.f rfl ?_
              refine Gx.skip ?_
              refine Gx.blkN ?_
              refine Gx.thenN ?_
              refine Gx.region ?_
              refine Gx.val rfl rfl rfl (val_move rfl rfl) ?_
              refine Gx.val rfl rfl rfl (val_add rfl rfl rfl (r := ((i + 1 : Nat) : Int)) (w64 (by omega) (by omega))) ?_
              refine Gx.val rfl rfl rfl (val_assign rfl rfl) ?_
              refine Gx.done ?_
              refine Gx.thenN ?_
              exact Gx.round (i + 1, x.rnd, bs) ⟨by first | omega | (dsimp only; omega), by first | omega | (dsimp only; omega), by first | omega | (dsimp only; omega), fun b hb => by
                rcases Nat.lt_or_ge b i with q | q
                · have := htp b q; (try dsimp only); omega
                · obtain rfl : b = i := by (try dsimp only at hb); omega
                  rw [rndM_of hx]; (try dsimp only); omega, hbc, fun b hb hc => by
                rcases Nat.lt_or_ge b i with q | q
                · exact hbm b q hc
                · obtain rfl : b = i := by (try dsimp only at hb); omega
                  exact absurd (cert_on hy hc) (by rw [h29]; simp)⟩ (by first | omega | (dsimp only; omega)) ((.cons rfl (.cons rfl (.cons rfl (.cons rfl (.cons rfl (.cons rfl (.cons rfl (.cons rfl .nil))))))))) rfl
          · refine Gx.skip ?_
            refine Gx.thenN ?_
            refine Gx.seq ?_
            refine Gx.regionQ Try.mixed (by kernel_rfl) ?_
            refine Gq.val rfl rfl rfl (Val.cast (val_fieldAddr rfl Try.underlying28 rfl Try.ty26 rfl rfl) (v' := ptr b23 2) rfl) ?_
            refine Gq.val rfl rfl rfl (val_load rfl Try.ty26 rfl rfl (cell_rec (k := 0) rfl rfl)) ?_
            refine Gq.val rfl rfl rfl (val_move rfl rfl) ?_
            refine Gq.val rfl rfl rfl (val_ixa rfl Try.underlying26 Try.ty4 rfl rfl (j := i) (rfl) (reach_base hwv3 hy)) ?_
            refine Gq.val rfl rfl rfl (val_load rfl Try.ty4 rfl rfl (cell_base (i := 0) hwv3 hy rfl)) ?_
            refine Gq.val rfl rfl rfl (val_move rfl rfl) ?_
            refine Gq.casesB (t := 87) rfl (fun h31 => ?_) (fun h31 => ?_)
            · refine Gq.valg rfl rfl rfl rfl rfl (Val.cast (val_fieldAddr rfl Try.underlying28 rfl Try.ty25 rfl rfl) (v' := ptr b23 1) rfl) ?_
              refine Gq.valg rfl rfl rfl rfl rfl (val_load rfl Try.ty25 rfl rfl (cell_rec (k := 0) rfl rfl)) ?_
              refine Gq.valg rfl rfl rfl rfl rfl (val_move rfl rfl) ?_
              refine Gq.valg rfl rfl rfl rfl rfl (val_ixa rfl Try.underlying25 Try.ty35 rfl rfl (j := i) (rfl) (reach_base hbv2 hx)) ?_
              refine Gq.valg rfl rfl rfl rfl rfl (Val.cast (val_fieldAddr rfl Try.underlying35 rfl Try.ty3 rfl rfl) (v' := ptr (sB (.slice sa14 sn15 sc16)) (sO (.slice sa14 sn15 sc16) + i * 2 + 1)) rfl) ?_
              refine Gq.valg rfl rfl rfl rfl rfl (val_load rfl Try.ty3 rfl rfl (cell_base (i := 1) hbv2 hx rfl)) ?_
              refine Gq.valg rfl rfl rfl rfl rfl (Val.cast (val_fieldAddr rfl Try.underlying28 rfl Try.ty25 rfl rfl) (v' := ptr b23 1) rfl) ?_
              refine Gq.valg rfl rfl rfl rfl rfl (val_load rfl Try.ty25 rfl rfl (cell_rec (k := 0) rfl rfl)) ?_
              refine Gq.valg rfl rfl rfl rfl rfl (val_move rfl rfl) ?_
              refine Gq.valg rfl rfl rfl rfl rfl (val_ixa rfl Try.underlying25 Try.ty35 rfl rfl (j := bs) (rfl) (reach_base hbv2 hxb)) ?_
              refine Gq.valg rfl rfl rfl rfl rfl (Val.cast (val_fieldAddr rfl Try.underlying35 rfl Try.ty3 rfl rfl) (v' := ptr (sB (.slice sa14 sn15 sc16)) (sO (.slice sa14 sn15 sc16) + bs * 2 + 1)) rfl) ?_
              refine Gq.valg rfl rfl rfl rfl rfl (val_load rfl Try.ty3 rfl rfl (cell_base (i := 1) hbv2 hxb rfl)) ?_
              refine Gq.valg rfl rfl rfl rfl rfl (val_gtr rfl rfl rfl) ?_
              refine Gq.val rfl rfl rfl (val_pickT rfl rfl rfl) ?_
              refine Gq.done ?_
              refine Gx.thenN ?_
              refine Gx.dec rfl (fun h32 => ?_) (fun h32 => ?_)
              · refine Gx.region ?_
                refine Gx.val rfl rfl rfl (val_move rfl rfl) ?_
                refine Gx.val rfl rfl rfl (val_assign rfl rfl) ?_
                refine Gx.done ?_
                refine Gx.blkN ?_
                refine Gx.thenN ?_
                refine Gx.region ?_
                refine Gx.val rfl rfl rfl (val_move rfl rfl) ?_
                refine Gx.val rfl rfl rfl (val_add rfl rfl rfl (r := ((i + 1 : Nat) : Int)) (w64 (by omega) (by omega))) ?_
                refine Gx.val rfl rfl rfl (val_assign rfl rfl) ?_
                refine Gx.done ?_
                refine Gx.thenN ?_
                exact Gx.round (i + 1, tp, i) ⟨by first | omega | (dsimp only; omega), by first | omega | (dsimp only; omega), by first | omega | (dsimp only; omega), fun b hb => by
                  rcases Nat.lt_or_ge b i with q | q
                  · have := htp b q; (try dsimp only); omega
                  · obtain rfl : b = i := by (try dsimp only at hb); omega
                    rw [rndM_of hx]; (try dsimp only); omega, cert_at hy h31, fun b hb hc => by
                  rw [rndM_of hx]
                  rcases Nat.lt_or_ge b i with q | q
                  · have := hbm b q hc; rw [rndM_of hxb] at this; omega
                  · obtain rfl : b = i := by (try dsimp only at hb); omega
                    rw [rndM_of hx]; exact Nat.le_refl _⟩ (by first | omega | (dsimp only; omega)) ((.cons rfl (.cons rfl (.cons rfl (.cons rfl (.cons rfl (.cons rfl (.cons rfl (.cons rfl .nil))))))))) rfl
              · refine Gx.skip ?_
                refine Gx.blkN ?_
                refine Gx.thenN ?_
                refine Gx.region ?_
                refine Gx.val rfl rfl rfl (val_move rfl rfl) ?_
                refine Gx.val rfl rfl rfl (val_add rfl rfl rfl (r := ((i + 1 : Nat) : Int)) (w64 (by omega) (by omega))) ?_
                refine Gx.val rfl rfl rfl (val_assign rfl rfl) ?_
                refine Gx.done ?_
                refine Gx.thenN ?_
                exact Gx.round (i + 1, tp, bs) ⟨by first | omega | (dsimp only; omega), by first | omega | (dsimp only; omega), by first | omega | (dsimp only; omega), fun b hb => by
                  rcases Nat.lt_or_ge b i with q | q
                  · have := htp b q; (try dsimp only); omega
                  · obtain rfl : b = i := by (try dsimp only at hb); omega
                    rw [rndM_of hx]; (try dsimp only); omega, hbc, fun b hb hc => by
                  rcases Nat.lt_or_ge b i with q | q
                  · exact hbm b q hc
                  · obtain rfl : b = i := by (try dsimp only at hb); omega
                    rw [rndM_of hx, rndM_of hxb]; omega⟩ (by first | omega | (dsimp only; omega)) ((.cons rfl (.cons rfl (.cons rfl (.cons rfl (.cons rfl (.cons rfl (.cons rfl (.cons rfl .nil))))))))) rfl
            · refine Gq.skipg rfl rfl rfl rfl rfl rfl ?_
              refine Gq.skipg rfl rfl rfl rfl rfl rfl ?_
              refine Gq.skipg rfl rfl rfl rfl rfl rfl ?_
              refine Gq.skipg rfl rfl rfl rfl rfl rfl ?_
              refine Gq.skipg rfl rfl rfl rfl rfl rfl ?_
              refine Gq.skipg rfl rfl rfl rfl rfl rfl ?_
              refine Gq.skipg rfl rfl rfl rfl rfl rfl ?_
              refine Gq.skipg rfl rfl rfl rfl rfl rfl ?_
              refine Gq.skipg rfl rfl rfl rfl rfl rfl ?_
              refine Gq.skipg rfl rfl rfl rfl rfl rfl ?_
              refine Gq.skipg rfl rfl rfl rfl rfl rfl ?_
              refine Gq.skipg rfl rfl rfl rfl rfl rfl ?_
              refine Gq.skipg rfl rfl rfl rfl rfl rfl ?_
              refine Gq.val rfl rfl rfl (val_pickF rfl rfl rfl) ?_
              refine Gq.done ?_
              refine Gx.thenN ?_
              refine Gx.f rfl ?_
              refine Gx.skip ?_
              refine Gx.blkN ?_
              refine Gx.thenN ?_
              refine Gx.region ?_
              refine Gx.val rfl rfl rfl (val_move rfl rfl) ?_
              refine Gx.val rfl rfl rfl (val_add rfl rfl rfl (r := ((i + 1 : Nat) : Int)) (w64 (by omega) (by omega))) ?_
              refine Gx.val rfl rfl rfl (val_assign rfl rfl) ?_
              refine Gx.done ?_
              refine Gx.thenN ?_
              exact Gx.round (i + 1, tp, bs) ⟨by first | omega | (dsimp only; omega), by first | omega | (dsimp only; omega), by first | omega | (dsimp only; omega), fun b hb => by
                rcases Nat.lt_or_ge b i with q | q
                · have := htp b q; (try dsimp only); omega
                · obtain rfl : b = i := by (try dsimp only at hb); omega
                  rw [rndM_of hx]; (try dsimp only); omega, hbc, fun b hb hc => by
                rcases Nat.lt_or_ge b i with q | q
                · exact hbm b q hc
                · obtain rfl : b = i := by (try dsimp only at hb); omega
                  exact absurd (cert_on hy hc) (by rw [h31]; simp)⟩ (by first | omega | (dsimp only; omega)) ((.cons rfl (.cons rfl (.cons rfl (.cons rfl (.cons rfl (.cons rfl (.cons rfl (.cons rfl .nil))))))))) rfl
        · refine Gx.exit ?_
          refine Gx.thenE ?_
          refine Gx.thenE ?_
          refine Gx.blkE ?_
          refine Gx.thenN ?_
          refine Gx.seq ?_
          refine Gx.seq ?_
          obtain rfl : i = (stM c (ms0 c.n) cs).bl.length := by omega
          refine Gx.region ?_
          refine Gx.val rfl rfl rfl (val_move rfl rfl) ?_
          refine Gx.val rfl rfl rfl (val_len rfl Try.underlying23 rfl (len_base hs10)) ?_
          refine Gx.val rfl rfl rfl (val_move rfl rfl) ?_
          refine Gx.done ?_
          refine Gx.thenN ?_
          refine Gx.block ?_
          refine Gx.loop (ι := Nat × Nat) (fun ξ => (ξ.1 ≤ cs.length) ∧ (ξ.2 ≤ 1000) ∧ (∀ b, b < (stM c (ms0 c.n) cs).bl.length → rndM (stM c (ms0 c.n) cs) b ≤ ξ.2) ∧ (∀ z ∈ cs.take ξ.1, z.kind = 3 → z.rnd ≤ 1000 → z.rnd ≤ ξ.2)) (fun ξ => [(0, .int .i64 ((c.n : Nat) : Int)), (1, .int .i64 ((f : Nat) : Int)), (2, .int .u32 ((c.L : Nat) : Int)), (3, sv), (9, ptr b23 0), (12, .int .i64 ((bs : Nat) : Int)), (103, sv), (104, .int .i64 ((cs.length : Nat) : Int)), (105, .int .i64 ((ξ.1 : Nat) : Int)), (11, .int .i64 ((ξ.2 : Nat) : Int))]) (fun ξ => [Hp.rec_ b23 [.slice sa11 sn12 sc13, .slice sa14 sn15 sc16, .slice sa17 sn18 sc19, .slice sa20 sn21 sc22]]) (fun ξ => cs.length - ξ.1) (0, tp) ⟨by first | omega | (dsimp only; omega), htp1, htp, fun z hz => by simp at hz⟩ ((.cons rfl (.cons rfl (.cons rfl (.cons rfl (.cons rfl (.cons rfl (.cons rfl (.cons rfl (.cons rfl (.cons rfl .nil))))))))))) rfl ?_
          rintro ⟨j, tq⟩ ⟨hj, hq1, hq, hc⟩
          dsimp only at hj hq1 hq hc
          refine Gx.know (m' := [(0, .int .i64 ((c.n : Nat) : Int)), (1, .int .i64 ((f : Nat) : Int)), (2, .int .u32 ((c.L : Nat) : Int)), (3, sv), (9, ptr b23 0), (12, .int .i64 ((bs : Nat) : Int)), (103, sv), (104, .int .i64 ((cs.length : Nat) : Int)), (105, .int .i64 ((j : Nat) : Int)), (11, .int .i64 ((tq : Nat) : Int))]) (.cons rfl (.cons rfl (.cons rfl (.cons rfl (.cons rfl (.cons rfl (.cons rfl (.cons rfl (.cons rfl (.cons rfl .nil)))))))))) (Gx.norm (l' := [Hp.rec_ b23 [.slice sa11 sn12 sc13, .slice sa14 sn15 sc16, .slice sa17 sn18 sc19, .slice sa20 sn21 sc22]]) rfl ?_)
          refine Gx.seq ?_
          refine Gx.region ?_
          refine Gx.val rfl rfl rfl (val_lss rfl rfl rfl) ?_
          refine Gx.done ?_
          refine Gx.thenN ?_
          refine Gx.seq ?_
          refine Gx.dec rfl (fun h33 => ?_) (fun h33 => ?_)
          · refine Gx.skip ?_
            refine Gx.thenN ?_
            refine Gx.seq ?_
            refine Gx.block ?_
            refine Gx.seq ?_
            refine Gx.region ?_
            obtain ⟨x34, hx34⟩ := get_of_lt (xs := cs) (k := j) (by first | omega | (simp; omega))
            refine Gx.val rfl rfl rfl (val_ixa rfl Try.underlying23 Try.ty42 rfl rfl (j := j) (rfl) (reach_base hs10 hx34)) ?_
            refine Gx.val rfl rfl rfl (Val.cast (val_loadA rfl Try.ty42 rfl rfl rfl (cells_base hs10 hx34)) (v' := .agg #[.int .i64 x34.kind, .int .i64 x34.who, .int .i64 x34.blk, .int .i64 x34.rnd, .int .i64 x34.hi]) rfl) ?_
            refine Gx.eff rfl rfl rfl (eff_alloc rfl Try.ty42 (vs := [.int .i64 0, .int .i64 0, .int .i64 0, .int .i64 0, .int .i64 0]) rfl) ?_
            rintro _ _ ⟨b35, rfl, rfl⟩
            refine Gx.eff0 rfl rfl (eff_store rfl Try.ty42 rfl rfl (us := [.int .i64 x34.kind, .int .i64 x34.who, .int .i64 x34.blk, .int .i64 x34.rnd, .int .i64 x34.hi]) rfl rfl rfl (k := 0) rfl (rfl) (vs' := [.int .i64 x34.kind, .int .i64 x34.who, .int .i64 x34.blk, .int .i64 x34.rnd, .int .i64 x34.hi]) (rfl) (l' := [Hp.rec_ b35 [.int .i64 x34.kind, .int .i64 x34.who, .int .i64 x34.blk, .int .i64 x34.rnd, .int .i64 x34.hi], Hp.rec_ b23 [.slice sa11 sn12 sc13, .slice sa14 sn15 sc16, .slice sa17 sn18 sc19, .slice sa20 sn21 sc22]]) rfl) ?_
            rintro _ _ rfl
            refine Gx.done ?_
            refine Gx.thenN ?_
            refine Gx.seq ?_
            refine Gx.region ?_
            refine Gx.val rfl rfl rfl (Val.cast (val_fieldAddr rfl Try.underlying42 rfl Try.ty3 rfl rfl) (v' := ptr b35 0) rfl) ?_
            refine Gx.val rfl rfl rfl (val_load rfl Try.ty3 rfl rfl (cell_rec (k := 0) rfl rfl)) ?_
            refine Gx.val rfl rfl rfl (val_eql rfl rfl rfl) ?_
            refine Gx.val rfl rfl rfl (val_move rfl rfl) ?_
            refine Gx.cases (t := 112) rfl (fun h36 => ?_) (fun h36 => ?_)
            · refine Gx.valg rfl rfl rfl rfl rfl (Val.cast (val_fieldAddr rfl Try.underlying42 rfl Try.ty3 rfl rfl) (v' := ptr b35 3) rfl) ?_
              refine Gx.valg rfl rfl rfl rfl rfl (val_load rfl Try.ty3 rfl rfl (cell_rec (k := 0) rfl rfl)) ?_
              refine Gx.valg rfl rfl rfl rfl rfl (val_move rfl rfl) ?_
              refine Gx.valg rfl rfl rfl rfl rfl (val_gtr rfl rfl rfl) ?_
              refine Gx.val rfl rfl rfl (val_pickT rfl rfl rfl) ?_
              refine Gx.val rfl rfl rfl (val_move rfl rfl) ?_
              refine Gx.cases (t := 118) rfl (fun h37 => ?_) (fun h37 => ?_)
              · refine Gx.valg rfl rfl rfl rfl rfl (Val.cast (val_fieldAddr rfl Try.underlying42 rfl Try.ty3 rfl rfl) (v' := ptr b35 3) rfl) ?_
                refine Gx.valg rfl rfl rfl rfl rfl (val_load rfl Try.ty3 rfl rfl (cell_rec (k := 0) rfl rfl)) ?_
                refine Gx.valg rfl rfl rfl rfl rfl (val_leq rfl rfl rfl) ?_
                refine Gx.val rfl rfl rfl (val_pickT rfl rfl rfl) ?_
                refine Gx.done ?_
                refine Gx.thenN ?_
                refine Gx.dec rfl (fun h38 => ?_) (fun h38 => ?_)
                · refine Gx.region ?_
                  refine Gx.val rfl rfl rfl (Val.cast (val_fieldAddr rfl Try.underlying42 rfl Try.ty3 rfl rfl) (v' := ptr b35 3) rfl) ?_
                  refine Gx.val rfl rfl rfl (val_load rfl Try.ty3 rfl rfl (cell_rec (k := 0) rfl rfl)) ?_
                  obtain ⟨rr, hrr⟩ := Int.eq_ofNat_of_zero_le (a := x34.rnd) (by omega)
                  refine Gx.slot (t := 124) (v := .int .i64 ((rr : Nat) : Int)) (by rw [← hrr]; rfl) ?_
                  refine Gx.val rfl rfl rfl (val_assign rfl rfl) ?_
                  refine Gx.done ?_
                  refine Gx.blkN ?_
                  refine Gx.thenN ?_
                  refine Gx.region ?_
                  refine Gx.val rfl rfl rfl (val_add rfl rfl rfl (r := ((j + 1 : Nat) : Int)) (w64 (by omega) (by omega))) ?_
                  refine Gx.val rfl rfl rfl (val_move rfl rfl) ?_
                  refine Gx.done ?_
                  refine Gx.thenN ?_
                  refine Gx.drop 0 rfl ?_
                  exact Gx.round (j + 1, rr) ⟨by first | omega | (dsimp only; omega), by first | omega | (dsimp only; omega), fun b hb => by have := hq b hb; (try dsimp only); omega, fun z hz hk hr => by
                    rw [take_snoc' hx34] at hz
                    rcases List.mem_append.1 hz with q | q
                    · have := hc z q hk hr; (try dsimp only); omega
                    · rw [List.mem_singleton] at q; subst q; (try dsimp only); omega⟩ (by first | omega | (dsimp only; omega)) ((.cons rfl (.cons rfl (.cons rfl (.cons rfl (.cons rfl (.cons rfl (.cons rfl (.cons rfl (.cons rfl (.cons rfl .nil))))))))))) rfl
                · refine Gx.skip ?_
                  refine Gx.blkN ?_
                  refine Gx.thenN ?_
                  refine Gx.region ?_
                  refine Gx.val rfl rfl rfl (val_add rfl rfl rfl (r := ((j + 1 : Nat) : Int)) (w64 (by omega) (by omega))) ?_
                  refine Gx.val rfl rfl rfl (val_move rfl rfl) ?_
                  refine Gx.done ?_
                  refine Gx.thenN ?_
                  refine Gx.drop 0 rfl ?_
                  exact Gx.round (j + 1, tq) ⟨by first | omega | (dsimp only; omega), by first | omega | (dsimp only; omega), fun b hb => by have := hq b hb; (try dsimp only); omega, fun z hz hk hr => by
                    rw [take_snoc' hx34] at hz
                    rcases List.mem_append.1 hz with q | q
                    · have := hc z q hk hr; (try dsimp only); omega
                    · rw [List.mem_singleton] at q; subst q; (try dsimp only); omega⟩ (by first | omega | (dsimp only; omega)) ((.cons rfl (.cons rfl (.cons rfl (.cons rfl (.cons rfl (.cons rfl (.cons rfl (.cons rfl (.cons rfl (.cons rfl .nil))))))))))) rfl
              · refine Gx.skipg rfl rfl rfl rfl rfl rfl ?_
                refine Gx.skipg rfl rfl rfl rfl rfl rfl ?_
                refine Gx.skipg rfl rfl rfl rfl rfl rfl ?_
                refine Gx.val rfl rfl rfl (val_pickF rfl rfl rfl) ?_
                refine Gx.done ?_
                refine Gx.thenN ?_
                refine Gx.f rfl ?_
                refine Gx.skip ?_
                refine Gx.blkN ?_
                refine Gx.thenN ?_
                refine Gx.region ?_
                refine Gx.val rfl rfl rfl (val_add rfl rfl rfl (r := ((j + 1 : Nat) : Int)) (w64 (by omega) (by omega))) ?_
                refine Gx.val rfl rfl rfl (val_move rfl rfl) ?_
                refine Gx.done ?_
                refine Gx.thenN ?_
                refine Gx.drop 0 rfl ?_
                exact Gx.round (j + 1, tq) ⟨by first | omega | (dsimp only; omega), by first | omega | (dsimp only; omega), fun b hb => by have := hq b hb; (try dsimp only); omega, fun z hz hk hr => by
                  rw [take_snoc' hx34] at hz
                  rcases List.mem_append.1 hz with q | q
                  · have := hc z q hk hr; (try dsimp only); omega
                  · rw [List.mem_singleton] at q; subst q; (try dsimp only); omega⟩ (by first | omega | (dsimp only; omega)) ((.cons rfl (.cons rfl (.cons rfl (.cons rfl (.cons rfl (.cons rfl (.cons rfl (.cons rfl (.cons rfl (.cons rfl .nil))))))))))) rfl
            · refine Gx.skipg rfl rfl rfl rfl rfl rfl ?_
              refine Gx.skipg rfl rfl rfl rfl rfl rfl ?_
              refine Gx.skipg rfl rfl rfl rfl rfl rfl ?_
              refine Gx.skipg rfl rfl rfl rfl rfl rfl ?_
              refine Gx.val rfl rfl rfl (val_pickF rfl rfl rfl) ?_
              refine Gx.val rfl rfl rfl (val_move rfl rfl) ?_
              refine Gx.skipg rfl rfl rfl rfl rfl rfl ?_
              refine Gx.skipg rfl rfl rfl rfl rfl rfl ?_
              refine Gx.skipg rfl rfl rfl rfl rfl rfl ?_
              refine Gx.val rfl rfl rfl (val_pickF rfl rfl rfl) ?_
              refine Gx.done ?_
              refine Gx.thenN ?_
              refine Gx.f rfl ?_
              refine Gx.skip ?_
              refine Gx.blkN ?_
              refine Gx.thenN ?_
              refine Gx.region ?_
              refine Gx.val rfl rfl rfl (val_add rfl rfl rfl (r := ((j + 1 : Nat) : Int)) (w64 (by omega) (by omega))) ?_
              refine Gx.val rfl rfl rfl (val_move rfl rfl) ?_
              refine Gx.done ?_
              refine Gx.thenN ?_
              refine Gx.drop 0 rfl ?_
              exact Gx.round (j + 1, tq) ⟨by first | omega | (dsimp only; omega), by first | omega | (dsimp only; omega), fun b hb => by have := hq b hb; (try dsimp only); omega, fun z hz hk hr => by
                rw [take_snoc' hx34] at hz
                rcases List.mem_append.1 hz with q | q
                · have := hc z q hk hr; (try dsimp only); omega
                · rw [List.mem_singleton] at q; subst q; (try dsimp only); omega⟩ (by first | omega | (dsimp only; omega)) ((.cons rfl (.cons rfl (.cons rfl (.cons rfl (.cons rfl (.cons rfl (.cons rfl (.cons rfl (.cons rfl (.cons rfl .nil))))))))))) rfl
          · refine Gx.exit ?_
            refine Gx.thenE ?_
            refine Gx.thenE ?_
            refine Gx.blkE ?_
            refine Gx.thenN ?_
            refine Gx.seq ?_
            refine Gx.seq ?_
            obtain rfl : j = cs.length := by omega
            rw [List.take_length] at hc
            refine Gx.region ?_
            refine Gx.val rfl rfl rfl (val_move rfl rfl) ?_
            refine Gx.val rfl rfl rfl (val_add rfl rfl rfl (r := ((tq + 3 : Nat) : Int)) (w64 (by omega) (by omega))) ?_
            refine Gx.val rfl rfl rfl (val_gtr rfl rfl rfl) ?_
            refine Gx.done ?_
            refine Gx.thenN ?_
            refine Gx.dec rfl (fun h39 => ?_) (fun h39 => ?_)
            · refine Gx.seq ?_
              refine Gx.region ?_
              refine Gx.val rfl rfl rfl (val_assign rfl rfl) ?_
              refine Gx.done ?_
              refine Gx.thenN ?_
              refine Gx.ret ?_
              refine Gx.thenR ?_
              refine Gx.ret1B hW9 Try.results5 rfl ?_
              rfl
            · refine Gx.skip ?_
              refine Gx.thenN ?_
              refine Gx.seq ?_
              refine Gx.region ?_
              refine Gx.eff rfl rfl rfl (eff_buildNil (f := FM) (sz := 5) (e := 42) rfl Try.underlying23 (fun w => by first | (go_simp; done) | (go_simp; rfl))) ?_
              rintro v40 _ ⟨hiv40, rfl⟩
              refine Gx.val rfl rfl rfl (val_move rfl rfl) ?_
              refine Gx.eff rfl rfl rfl (eff_pushAll (k := 0) (ys := cs) rfl Try.eM FM_len FM_one rfl rfl (fun w H => hs10.below H.below) rfl (by simp; omega) (by simp; omega)) ?_
              rintro v41 _ ⟨hiv41, rfl⟩
              refine Gx.norm (l' := [Hp.own FM 5 v41 cs, Hp.rec_ b23 [.slice sa11 sn12 sc13, .slice sa14 sn15 sc16, .slice sa17 sn18 sc19, .slice sa20 sn21 sc22]]) rfl ?_
              refine Gx.val rfl rfl rfl (val_assign rfl rfl) ?_
              refine Gx.done ?_
              refine Gx.thenN ?_
              refine Gx.seq ?_
              refine Gx.region ?_
              refine Gx.val rfl rfl rfl (Val.cast (val_fieldAddr rfl Try.underlying28 rfl Try.ty25 rfl rfl) (v' := ptr b23 1) rfl) ?_
              refine Gx.val rfl rfl rfl (val_load rfl Try.ty25 rfl rfl (cell_rec (k := 1) rfl rfl)) ?_
              refine Gx.val rfl rfl rfl (val_len rfl Try.underlying25 rfl (len_base hbv2)) ?_
              refine Gx.val rfl rfl rfl (val_assign rfl rfl) ?_
              refine Gx.done ?_
              refine Gx.thenN ?_
              refine Gx.seq ?_
              refine Gx.seq ?_
              obtain ⟨aN, haN⟩ : ∃ aN, aN = (stM c (ms0 c.n) cs).bl.length := ⟨_, rfl⟩
              refine Gx.slot (t := 17) (v := .int .i64 ((aN : Nat) : Int)) (by rw [haN]; rfl) ?_
              refine Gx.region ?_
              refine Gx.val rfl rfl rfl (val_assign rfl rfl) ?_
              refine Gx.done ?_
              refine Gx.thenN ?_
              refine Gx.block ?_
              refine Gx.norm (l' := [Hp.own FM 5 v41 (cs ++ pairsL bs (tq + 1) 0), Hp.rec_ b23 [.slice sa11 sn12 sc13, .slice sa14 sn15 sc16, .slice sa17 sn18 sc19, .slice sa20 sn21 sc22]]) (by rw [show pairsL bs (tq + 1) 0 = [] from rfl, List.append_nil] <;> rfl) ?_
              refine Gx.loop (ι := Nat × Value) (fun ξ => (ξ.1 ≤ c.n) ∧ (IsS ξ.2)) (fun ξ => [(0, .int .i64 ((c.n : Nat) : Int)), (1, .int .i64 ((f : Nat) : Int)), (2, .int .u32 ((c.L : Nat) : Int)), (3, sv), (9, ptr b23 0), (11, .int .i64 ((tq : Nat) : Int)), (12, .int .i64 ((bs : Nat) : Int)), (17, .int .i64 ((aN : Nat) : Int)), (18, .int .i64 ((ξ.1 : Nat) : Int)), (16, ξ.2)]) (fun ξ => [Hp.own FM 5 ξ.2 (cs ++ pairsL bs (tq + 1) ξ.1), Hp.rec_ b23 [.slice sa11 sn12 sc13, .slice sa14 sn15 sc16, .slice sa17 sn18 sc19, .slice sa20 sn21 sc22]]) (fun ξ => c.n - ξ.1) (0, v41) ⟨by first | omega | (dsimp only; omega), hiv41⟩ ((.cons rfl (.cons rfl (.cons rfl (.cons rfl (.cons rfl (.cons rfl (.cons rfl (.cons rfl (.cons rfl (.cons rfl .nil))))))))))) rfl ?_
              rintro ⟨m, av⟩ ⟨hm, hia⟩
              dsimp only at hm hia
              refine Gx.know (m' := [(0, .int .i64 ((c.n : Nat) : Int)), (1, .int .i64 ((f : Nat) : Int)), (2, .int .u32 ((c.L : Nat) : Int)), (3, sv), (9, ptr b23 0), (11, .int .i64 ((tq : Nat) : Int)), (12, .int .i64 ((bs : Nat) : Int)), (17, .int .i64 ((aN : Nat) : Int)), (18, .int .i64 ((m : Nat) : Int)), (16, av)]) (.cons rfl (.cons rfl (.cons rfl (.cons rfl (.cons rfl (.cons rfl (.cons rfl (.cons rfl (.cons rfl (.cons rfl .nil)))))))))) (Gx.norm (l' := [Hp.own FM 5 av (cs ++ pairsL bs (tq + 1) m), Hp.rec_ b23 [.slice sa11 sn12 sc13, .slice sa14 sn15 sc16, .slice sa17 sn18 sc19, .slice sa20 sn21 sc22]]) rfl ?_)
              have hpl := pairsL_len bs (tq + 1) m
              have hpn := pairsL_len bs (tq + 1) c.n
              have hv1 := votesL_len aN m
              have hv1n := votesL_len aN c.n
              have hv2 := votesL_len (aN + 1) m
              refine Gx.seq ?_
              refine Gx.seq ?_
              refine Gx.region ?_
              refine Gx.val rfl rfl rfl (val_move rfl rfl) ?_
              refine Gx.val rfl rfl rfl (val_move rfl rfl) ?_
              refine Gx.val rfl rfl rfl (val_lss rfl rfl rfl) ?_
              refine Gx.done ?_
              refine Gx.thenN ?_
              refine Gx.dec rfl (fun h42 => ?_) (fun h42 => ?_)
              · refine Gx.skip ?_
                refine Gx.thenN ?_
                refine Gx.seq ?_
                refine Gx.block ?_
                refine Gx.region ?_
                refine Gx.val rfl rfl rfl (val_move rfl rfl) ?_
                refine Gx.val rfl rfl rfl (val_move rfl rfl) ?_
                refine Gx.val rfl rfl rfl (val_move rfl rfl) ?_
                refine Gx.val rfl rfl rfl (val_build rfl (qs := [(0, .int .i64 4), (1, .int .i64 ((m : Nat) : Int)), (2, .int .i64 ((bs : Nat) : Int))]) rfl rfl (fun w => by go_simp) (v := .agg #[.int .i64 4, .int .i64 ((m : Nat) : Int), .int .i64 ((bs : Nat) : Int), .int .i64 0, .int .i64 0])) ?_
                refine Gx.val rfl rfl rfl (val_move rfl rfl) ?_
                refine Gx.val rfl rfl rfl (val_move rfl rfl) ?_
                refine Gx.val rfl rfl rfl (val_add rfl rfl rfl (r := ((tq + 1 : Nat) : Int)) (w64 (by omega) (by omega))) ?_
                refine Gx.val rfl rfl rfl (val_build rfl (qs := [(0, .int .i64 3), (1, .int .i64 ((m : Nat) : Int)), (3, .int .i64 ((tq + 1 : Nat) : Int))]) rfl rfl (fun w => by go_simp) (v := .agg #[.int .i64 3, .int .i64 ((m : Nat) : Int), .int .i64 0, .int .i64 ((tq + 1 : Nat) : Int), .int .i64 0])) ?_
                refine Gx.eff rfl rfl rfl (eff_buildSlice rfl (qs := [(0, .agg #[.int .i64 4, .int .i64 ((m : Nat) : Int), .int .i64 ((bs : Nat) : Int), .int .i64 0, .int .i64 0]), (1, .agg #[.int .i64 3, .int .i64 ((m : Nat) : Int), .int .i64 0, .int .i64 ((tq + 1 : Nat) : Int), .int .i64 0])]) rfl rfl (cs := #[.int .i64 4, .int .i64 ((m : Nat) : Int), .int .i64 ((bs : Nat) : Int), .int .i64 0, .int .i64 0, .int .i64 3, .int .i64 ((m : Nat) : Int), .int .i64 0, .int .i64 ((tq + 1 : Nat) : Int), .int .i64 0]) (vs := [.int .i64 4, .int .i64 ((m : Nat) : Int), .int .i64 ((bs : Nat) : Int), .int .i64 0, .int .i64 0, .int .i64 3, .int .i64 ((m : Nat) : Int), .int .i64 0, .int .i64 ((tq + 1 : Nat) : Int), .int .i64 0]) (E := 42) rfl (fun w => by first | (go_simp; done) | (go_simp; rfl))) ?_
                rintro _ _ ⟨b43, rfl, rfl⟩
                refine Gx.part (k := 0) rfl (q := Hp.own FM 5 (.slice (some ⟨b43, 0, none⟩) 2 2) ([(⟨4, ((m : Nat) : Int), ((bs : Nat) : Int), 0, 0⟩ : Sy), (⟨3, ((m : Nat) : Int), 0, ((tq + 1 : Nat) : Int), 0⟩ : Sy)])) (own_of_rec (f := FM) (xs := [(⟨4, ((m : Nat) : Int), ((bs : Nat) : Int), 0, 0⟩ : Sy), (⟨3, ((m : Nat) : Int), 0, ((tq + 1 : Nat) : Int), 0⟩ : Sy)]) FM_len rfl) ?_
                refine Gx.norm (l' := [Hp.own FM 5 (.slice (some ⟨b43, 0, none⟩) 2 2) ([(⟨4, ((m : Nat) : Int), ((bs : Nat) : Int), 0, 0⟩ : Sy), (⟨3, ((m : Nat) : Int), 0, ((tq + 1 : Nat) : Int), 0⟩ : Sy)]), Hp.own FM 5 av (cs ++ pairsL bs (tq + 1) m), Hp.rec_ b23 [.slice sa11 sn12 sc13, .slice sa14 sn15 sc16, .slice sa17 sn18 sc19, .slice sa20 sn21 sc22]]) rfl ?_
                refine Gx.eff rfl rfl rfl (eff_pushAll (k := 1) (ys := [(⟨4, ((m : Nat) : Int), ((bs : Nat) : Int), 0, 0⟩ : Sy), (⟨3, ((m : Nat) : Int), 0, ((tq + 1 : Nat) : Int), 0⟩ : Sy)]) rfl Try.eM FM_len FM_one rfl rfl (fun w H => (H.at_ (k := 0) rfl).sls (by simp)) rfl (by simp only [List.length_append, List.length_cons, List.length_nil]; omega) (by simp only [List.length_append, List.length_cons, List.length_nil]; omega)) ?_
                rintro v44 _ ⟨hiv44, rfl⟩
                refine Gx.norm (l' := [Hp.own FM 5 (.slice (some ⟨b43, 0, none⟩) 2 2) ([(⟨4, ((m : Nat) : Int), ((bs : Nat) : Int), 0, 0⟩ : Sy), (⟨3, ((m : Nat) : Int), 0, ((tq + 1 : Nat) : Int), 0⟩ : Sy)]), Hp.own FM 5 v44 ((cs ++ pairsL bs (tq + 1) m) ++ ([(⟨4, ((m : Nat) : Int), ((bs : Nat) : Int), 0, 0⟩ : Sy), (⟨3, ((m : Nat) : Int), 0, ((tq + 1 : Nat) : Int), 0⟩ : Sy)])), Hp.rec_ b23 [.slice sa11 sn12 sc13, .slice sa14 sn15 sc16, .slice sa17 sn18 sc19, .slice sa20 sn21 sc22]]) rfl ?_
                refine Gx.drop 0 rfl ?_
                refine Gx.norm (l' := [Hp.own FM 5 v44 ((cs ++ pairsL bs (tq + 1) m) ++ ([(⟨4, ((m : Nat) : Int), ((bs : Nat) : Int), 0, 0⟩ : Sy), (⟨3, ((m : Nat) : Int), 0, ((tq + 1 : Nat) : Int), 0⟩ : Sy)])), Hp.rec_ b23 [.slice sa11 sn12 sc13, .slice sa14 sn15 sc16, .slice sa17 sn18 sc19, .slice sa20 sn21 sc22]]) rfl ?_
                refine Gx.val rfl rfl rfl (val_assign rfl rfl) ?_
                refine Gx.done ?_
                refine Gx.blkN ?_
                refine Gx.thenN ?_
                refine Gx.region ?_
                refine Gx.val rfl rfl rfl (val_move rfl rfl) ?_
                refine Gx.val rfl rfl rfl (val_add rfl rfl rfl (r := ((m + 1 : Nat) : Int)) (w64 (by omega) (by omega))) ?_
                refine Gx.val rfl rfl rfl (val_assign rfl rfl) ?_
                refine Gx.done ?_
                refine Gx.thenN ?_
                refine Gx.norm (l' := [Hp.own FM 5 v44 (cs ++ pairsL bs (tq + 1) (m + 1)), Hp.rec_ b23 [.slice sa11 sn12 sc13, .slice sa14 sn15 sc16, .slice sa17 sn18 sc19, .slice sa20 sn21 sc22]]) (by rw [pairsL_succ, ← List.append_assoc] <;> rfl) ?_
                exact Gx.round (m + 1, v44) ⟨by first | omega | (dsimp only; omega), hiv44⟩ (by first | omega | (dsimp only; omega)) ((.cons rfl (.cons rfl (.cons rfl (.cons rfl (.cons rfl (.cons rfl (.cons rfl (.cons rfl (.cons rfl (.cons rfl .nil))))))))))) rfl
              · refine Gx.exit ?_
                refine Gx.thenE ?_
                refine Gx.thenE ?_
                refine Gx.blkE ?_
                refine Gx.thenN ?_
                refine Gx.seq ?_
                obtain rfl : m = c.n := by omega
                refine Gx.region ?_
                refine Gx.val rfl rfl rfl (val_move rfl rfl) ?_
                refine Gx.val rfl rfl rfl (val_move rfl rfl) ?_
                refine Gx.val rfl rfl rfl (val_move rfl rfl) ?_
                refine Gx.val rfl rfl rfl (val_add rfl rfl rfl (r := ((tq + 2 : Nat) : Int)) (w64 (by omega) (by omega))) ?_
                refine Gx.val rfl rfl rfl (val_build rfl (qs := [(0, .int .i64 1), (2, .int .i64 ((bs : Nat) : Int)), (3, .int .i64 ((tq + 2 : Nat) : Int))]) rfl rfl (fun w => by go_simp) (v := .agg #[.int .i64 1, .int .i64 0, .int .i64 ((bs : Nat) : Int), .int .i64 ((tq + 2 : Nat) : Int), .int .i64 0])) ?_
                refine Gx.eff rfl rfl rfl (eff_buildSlice rfl (qs := [(0, .agg #[.int .i64 1, .int .i64 0, .int .i64 ((bs : Nat) : Int), .int .i64 ((tq + 2 : Nat) : Int), .int .i64 0])]) rfl rfl (cs := #[.int .i64 1, .int .i64 0, .int .i64 ((bs : Nat) : Int), .int .i64 ((tq + 2 : Nat) : Int), .int .i64 0]) (vs := [.int .i64 1, .int .i64 0, .int .i64 ((bs : Nat) : Int), .int .i64 ((tq + 2 : Nat) : Int), .int .i64 0]) (E := 42) rfl (fun w => by first | (go_simp; done) | (go_simp; rfl))) ?_
                rintro _ _ ⟨b45, rfl, rfl⟩
                refine Gx.eff rfl rfl rfl (eff_push (r := (⟨1, 0, ((bs : Nat) : Int), ((tq + 2 : Nat) : Int), 0⟩ : Sy)) rfl Try.eM FM_len FM_one rfl rfl (k := 0) rfl rfl (k' := 0) rfl (by rw [List.length_append]; omega) (by rw [List.length_append]; omega)) ?_
                rintro v46 _ ⟨hiv46, rfl⟩
                refine Gx.norm (l' := [Hp.own FM 5 v46 ((cs ++ pairsL bs (tq + 1) c.n) ++ [(⟨1, 0, ((bs : Nat) : Int), ((tq + 2 : Nat) : Int), 0⟩ : Sy)]), Hp.rec_ b23 [.slice sa11 sn12 sc13, .slice sa14 sn15 sc16, .slice sa17 sn18 sc19, .slice sa20 sn21 sc22]]) rfl ?_
                refine Gx.val rfl rfl rfl (val_assign rfl rfl) ?_
                refine Gx.done ?_
                refine Gx.thenN ?_
                refine Gx.seq ?_
                refine Gx.seq ?_
                refine Gx.region ?_
                refine Gx.val rfl rfl rfl (val_assign rfl rfl) ?_
                refine Gx.done ?_
                refine Gx.thenN ?_
                refine Gx.block ?_
                refine Gx.norm (l' := [Hp.own FM 5 v46 ((cs ++ pairsL bs (tq + 1) c.n ++ [blockS bs (tq + 2)]) ++ votesL aN 0), Hp.rec_ b23 [.slice sa11 sn12 sc13, .slice sa14 sn15 sc16, .slice sa17 sn18 sc19, .slice sa20 sn21 sc22]]) (by rw [show votesL aN 0 = [] from rfl, List.append_nil] <;> rfl) ?_
                refine Gx.loop (ι := Nat × Value) (fun ξ => (ξ.1 ≤ c.n) ∧ (IsS ξ.2)) (fun ξ => [(0, .int .i64 ((c.n : Nat) : Int)), (1, .int .i64 ((f : Nat) : Int)), (2, .int .u32 ((c.L : Nat) : Int)), (3, sv), (9, ptr b23 0), (11, .int .i64 ((tq : Nat) : Int)), (12, .int .i64 ((bs : Nat) : Int)), (17, .int .i64 ((aN : Nat) : Int)), (19, .int .i64 ((ξ.1 : Nat) : Int)), (16, ξ.2)]) (fun ξ => [Hp.own FM 5 ξ.2 ((cs ++ pairsL bs (tq + 1) c.n ++ [blockS bs (tq + 2)]) ++ votesL aN ξ.1), Hp.rec_ b23 [.slice sa11 sn12 sc13, .slice sa14 sn15 sc16, .slice sa17 sn18 sc19, .slice sa20 sn21 sc22]]) (fun ξ => c.n - ξ.1) (0, v46) ⟨by first | omega | (dsimp only; omega), hiv46⟩ ((.cons rfl (.cons rfl (.cons rfl (.cons rfl (.cons rfl (.cons rfl (.cons rfl (.cons rfl (.cons rfl (.cons rfl .nil))))))))))) rfl ?_
                rintro ⟨m, av⟩ ⟨hm, hia⟩
                dsimp only at hm hia
                refine Gx.know (m' := [(0, .int .i64 ((c.n : Nat) : Int)), (1, .int .i64 ((f : Nat) : Int)), (2, .int .u32 ((c.L : Nat) : Int)), (3, sv), (9, ptr b23 0), (11, .int .i64 ((tq : Nat) : Int)), (12, .int .i64 ((bs : Nat) : Int)), (17, .int .i64 ((aN : Nat) : Int)), (19, .int .i64 ((m : Nat) : Int)), (16, av)]) (.cons rfl (.cons rfl (.cons rfl (.cons rfl (.cons rfl (.cons rfl (.cons rfl (.cons rfl (.cons rfl (.cons rfl .nil)))))))))) (Gx.norm (l' := [Hp.own FM 5 av ((cs ++ pairsL bs (tq + 1) c.n ++ [blockS bs (tq + 2)]) ++ votesL aN m), Hp.rec_ b23 [.slice sa11 sn12 sc13, .slice sa14 sn15 sc16, .slice sa17 sn18 sc19, .slice sa20 sn21 sc22]]) rfl ?_)
                have hpl := pairsL_len bs (tq + 1) m
                have hpn := pairsL_len bs (tq + 1) c.n
                have hv1 := votesL_len aN m
                have hv1n := votesL_len aN c.n
                have hv2 := votesL_len (aN + 1) m
                refine Gx.seq ?_
                refine Gx.seq ?_
                refine Gx.region ?_
                refine Gx.val rfl rfl rfl (val_move rfl rfl) ?_
                refine Gx.val rfl rfl rfl (val_move rfl rfl) ?_
                refine Gx.val rfl rfl rfl (val_lss rfl rfl rfl) ?_
                refine Gx.done ?_
                refine Gx.thenN ?_
                refine Gx.dec rfl (fun h47 => ?_) (fun h47 => ?_)
                · refine Gx.skip ?_
                  refine Gx.thenN ?_
                  refine Gx.seq ?_
                  refine Gx.block ?_
                  refine Gx.region ?_
                  refine Gx.val rfl rfl rfl (val_move rfl rfl) ?_
                  refine Gx.val rfl rfl rfl (val_move rfl rfl) ?_
                  refine Gx.val rfl rfl rfl (val_move rfl rfl) ?_
                  refine Gx.val rfl rfl rfl (val_build rfl (qs := [(0, .int .i64 2), (1, .int .i64 ((m : Nat) : Int)), (2, .int .i64 ((aN : Nat) : Int))]) rfl rfl (fun w => by go_simp) (v := .agg #[.int .i64 2, .int .i64 ((m : Nat) : Int), .int .i64 ((aN : Nat) : Int), .int .i64 0, .int .i64 0])) ?_
                  refine Gx.eff rfl rfl rfl (eff_buildSlice rfl (qs := [(0, .agg #[.int .i64 2, .int .i64 ((m : Nat) : Int), .int .i64 ((aN : Nat) : Int), .int .i64 0, .int .i64 0])]) rfl rfl (cs := #[.int .i64 2, .int .i64 ((m : Nat) : Int), .int .i64 ((aN : Nat) : Int), .int .i64 0, .int .i64 0]) (vs := [.int .i64 2, .int .i64 ((m : Nat) : Int), .int .i64 ((aN : Nat) : Int), .int .i64 0, .int .i64 0]) (E := 42) rfl (fun w => by first | (go_simp; done) | (go_simp; rfl))) ?_
                  rintro _ _ ⟨b48, rfl, rfl⟩
                  refine Gx.eff rfl rfl rfl (eff_push (r := (⟨2, ((m : Nat) : Int), ((aN : Nat) : Int), 0, 0⟩ : Sy)) rfl Try.eM FM_len FM_one rfl rfl (k := 0) rfl rfl (k' := 0) rfl (by simp only [List.length_append, List.length_singleton]; omega) (by simp only [List.length_append, List.length_singleton]; omega)) ?_
                  rintro v49 _ ⟨hiv49, rfl⟩
                  refine Gx.norm (l' := [Hp.own FM 5 v49 (((cs ++ pairsL bs (tq + 1) c.n ++ [blockS bs (tq + 2)]) ++ votesL aN m) ++ [(⟨2, ((m : Nat) : Int), ((aN : Nat) : Int), 0, 0⟩ : Sy)]), Hp.rec_ b23 [.slice sa11 sn12 sc13, .slice sa14 sn15 sc16, .slice sa17 sn18 sc19, .slice sa20 sn21 sc22]]) rfl ?_
                  refine Gx.val rfl rfl rfl (val_assign rfl rfl) ?_
                  refine Gx.done ?_
                  refine Gx.blkN ?_
                  refine Gx.thenN ?_
                  refine Gx.region ?_
                  refine Gx.val rfl rfl rfl (val_move rfl rfl) ?_
                  refine Gx.val rfl rfl rfl (val_add rfl rfl rfl (r := ((m + 1 : Nat) : Int)) (w64 (by omega) (by omega))) ?_
                  refine Gx.val rfl rfl rfl (val_assign rfl rfl) ?_
                  refine Gx.done ?_
                  refine Gx.thenN ?_
                  refine Gx.norm (l' := [Hp.own FM 5 v49 ((cs ++ pairsL bs (tq + 1) c.n ++ [blockS bs (tq + 2)]) ++ votesL aN (m + 1)), Hp.rec_ b23 [.slice sa11 sn12 sc13, .slice sa14 sn15 sc16, .slice sa17 sn18 sc19, .slice sa20 sn21 sc22]]) (by rw [votesL_succ, ← List.append_assoc] <;> rfl) ?_
                  exact Gx.round (m + 1, v49) ⟨by first | omega | (dsimp only; omega), hiv49⟩ (by first | omega | (dsimp only; omega)) ((.cons rfl (.cons rfl (.cons rfl (.cons rfl (.cons rfl (.cons rfl (.cons rfl (.cons rfl (.cons rfl (.cons rfl .nil))))))))))) rfl
                · refine Gx.exit ?_
                  refine Gx.thenE ?_
                  refine Gx.thenE ?_
                  refine Gx.blkE ?_
                  refine Gx.thenN ?_
                  refine Gx.seq ?_
                  obtain rfl : m = c.n := by omega
                  refine Gx.region ?_
                  refine Gx.val rfl rfl rfl (val_move rfl rfl) ?_
                  refine Gx.val rfl rfl rfl (val_move rfl rfl) ?_
                  refine Gx.val rfl rfl rfl (val_move rfl rfl) ?_
                  refine Gx.val rfl rfl rfl (val_add rfl rfl rfl (r := ((tq + 3 : Nat) : Int)) (w64 (by omega) (by omega))) ?_
                  refine Gx.val rfl rfl rfl (val_build rfl (qs := [(0, .int .i64 1), (2, .int .i64 ((aN : Nat) : Int)), (3, .int .i64 ((tq + 3 : Nat) : Int))]) rfl rfl (fun w => by go_simp) (v := .agg #[.int .i64 1, .int .i64 0, .int .i64 ((aN : Nat) : Int), .int .i64 ((tq + 3 : Nat) : Int), .int .i64 0])) ?_
                  refine Gx.eff rfl rfl rfl (eff_buildSlice rfl (qs := [(0, .agg #[.int .i64 1, .int .i64 0, .int .i64 ((aN : Nat) : Int), .int .i64 ((tq + 3 : Nat) : Int), .int .i64 0])]) rfl rfl (cs := #[.int .i64 1, .int .i64 0, .int .i64 ((aN : Nat) : Int), .int .i64 ((tq + 3 : Nat) : Int), .int .i64 0]) (vs := [.int .i64 1, .int .i64 0, .int .i64 ((aN : Nat) : Int), .int .i64 ((tq + 3 : Nat) : Int), .int .i64 0]) (E := 42) rfl (fun w => by first | (go_simp; done) | (go_simp; rfl))) ?_
                  rintro _ _ ⟨b50, rfl, rfl⟩
                  refine Gx.eff rfl rfl rfl (eff_push (r := (⟨1, 0, ((aN : Nat) : Int), ((tq + 3 : Nat) : Int), 0⟩ : Sy)) rfl Try.eM FM_len FM_one rfl rfl (k := 0) rfl rfl (k' := 0) rfl (by simp only [List.length_append, List.length_singleton]; omega) (by simp only [List.length_append, List.length_singleton]; omega)) ?_
                  rintro v51 _ ⟨hiv51, rfl⟩
                  refine Gx.norm (l' := [Hp.own FM 5 v51 (((cs ++ pairsL bs (tq + 1) c.n ++ [blockS bs (tq + 2)]) ++ votesL aN c.n) ++ [(⟨1, 0, ((aN : Nat) : Int), ((tq + 3 : Nat) : Int), 0⟩ : Sy)]), Hp.rec_ b23 [.slice sa11 sn12 sc13, .slice sa14 sn15 sc16, .slice sa17 sn18 sc19, .slice sa20 sn21 sc22]]) rfl ?_
                  refine Gx.val rfl rfl rfl (val_assign rfl rfl) ?_
                  refine Gx.done ?_
                  refine Gx.thenN ?_
                  refine Gx.seq ?_
                  refine Gx.seq ?_
                  refine Gx.region ?_
                  refine Gx.val rfl rfl rfl (val_assign rfl rfl) ?_
                  refine Gx.done ?_
                  refine Gx.thenN ?_
                  refine Gx.block ?_
                  refine Gx.norm (l' := [Hp.own FM 5 v51 (((cs ++ pairsL bs (tq + 1) c.n ++ [blockS bs (tq + 2)]) ++ votesL aN c.n ++ [blockS aN (tq + 3)]) ++ votesL (aN + 1) 0), Hp.rec_ b23 [.slice sa11 sn12 sc13, .slice sa14 sn15 sc16, .slice sa17 sn18 sc19, .slice sa20 sn21 sc22]]) (by rw [show votesL (aN + 1) 0 = [] from rfl, List.append_nil] <;> rfl) ?_
                  refine Gx.loop (ι := Nat × Value) (fun ξ => (ξ.1 ≤ c.n) ∧ (IsS ξ.2)) (fun ξ => [(0, .int .i64 ((c.n : Nat) : Int)), (1, .int .i64 ((f : Nat) : Int)), (2, .int .u32 ((c.L : Nat) : Int)), (3, sv), (9, ptr b23 0), (11, .int .i64 ((tq : Nat) : Int)), (12, .int .i64 ((bs : Nat) : Int)), (17, .int .i64 ((aN : Nat) : Int)), (20, .int .i64 ((ξ.1 : Nat) : Int)), (16, ξ.2)]) (fun ξ => [Hp.own FM 5 ξ.2 (((cs ++ pairsL bs (tq + 1) c.n ++ [blockS bs (tq + 2)]) ++ votesL aN c.n ++ [blockS aN (tq + 3)]) ++ votesL (aN + 1) ξ.1), Hp.rec_ b23 [.slice sa11 sn12 sc13, .slice sa14 sn15 sc16, .slice sa17 sn18 sc19, .slice sa20 sn21 sc22]]) (fun ξ => c.n - ξ.1) (0, v51) ⟨by first | omega | (dsimp only; omega), hiv51⟩ ((.cons rfl (.cons rfl (.cons rfl (.cons rfl (.cons rfl (.cons rfl (.cons rfl (.cons rfl (.cons rfl (.cons rfl .nil))))))))))) rfl ?_
                  rintro ⟨m, av⟩ ⟨hm, hia⟩
                  dsimp only at hm hia
                  refine Gx.know (m' := [(0, .int .i64 ((c.n : Nat) : Int)), (1, .int .i64 ((f : Nat) : Int)), (2, .int .u32 ((c.L : Nat) : Int)), (3, sv), (9, ptr b23 0), (11, .int .i64 ((tq : Nat) : Int)), (12, .int .i64 ((bs : Nat) : Int)), (17, .int .i64 ((aN : Nat) : Int)), (20, .int .i64 ((m : Nat) : Int)), (16, av)]) (.cons rfl (.cons rfl (.cons rfl (.cons rfl (.cons rfl (.cons rfl (.cons rfl (.cons rfl (.cons rfl (.cons rfl .nil)))))))))) (Gx.norm (l' := [Hp.own FM 5 av (((cs ++ pairsL bs (tq + 1) c.n ++ [blockS bs (tq + 2)]) ++ votesL aN c.n ++ [blockS aN (tq + 3)]) ++ votesL (aN + 1) m), Hp.rec_ b23 [.slice sa11 sn12 sc13, .slice sa14 sn15 sc16, .slice sa17 sn18 sc19, .slice sa20 sn21 sc22]]) rfl ?_)
                  have hpl := pairsL_len bs (tq + 1) m
                  have hpn := pairsL_len bs (tq + 1) c.n
                  have hv1 := votesL_len aN m
                  have hv1n := votesL_len aN c.n
                  have hv2 := votesL_len (aN + 1) m
                  refine Gx.seq ?_
                  refine Gx.seq ?_
                  refine Gx.region ?_
                  refine Gx.val rfl rfl rfl (val_move rfl rfl) ?_
                  refine Gx.val rfl rfl rfl (val_move rfl rfl) ?_
                  refine Gx.val rfl rfl rfl (val_lss rfl rfl rfl) ?_
                  refine Gx.done ?_
                  refine Gx.thenN ?_
                  refine Gx.dec rfl (fun h52 => ?_) (fun h52 => ?_)
                  · refine Gx.skip ?_
                    refine Gx.thenN ?_
                    refine Gx.seq ?_
                    refine Gx.block ?_
                    refine Gx.region ?_
                    refine Gx.val rfl rfl rfl (val_move rfl rfl) ?_
                    refine Gx.val rfl rfl rfl (val_move rfl rfl) ?_
                    refine Gx.val rfl rfl rfl (val_move rfl rfl) ?_
                    refine Gx.val rfl rfl rfl (val_add rfl rfl rfl (r := ((aN + 1 : Nat) : Int)) (w64 (by omega) (by omega))) ?_
                    refine Gx.val rfl rfl rfl (val_build rfl (qs := [(0, .int .i64 2), (1, .int .i64 ((m : Nat) : Int)), (2, .int .i64 ((aN + 1 : Nat) : Int))]) rfl rfl (fun w => by go_simp) (v := .agg #[.int .i64 2, .int .i64 ((m : Nat) : Int), .int .i64 ((aN + 1 : Nat) : Int), .int .i64 0, .int .i64 0])) ?_
                    refine Gx.eff rfl rfl rfl (eff_buildSlice rfl (qs := [(0, .agg #[.int .i64 2, .int .i64 ((m : Nat) : Int), .int .i64 ((aN + 1 : Nat) : Int), .int .i64 0, .int .i64 0])]) rfl rfl (cs := #[.int .i64 2, .int .i64 ((m : Nat) : Int), .int .i64 ((aN + 1 : Nat) : Int), .int .i64 0, .int .i64 0]) (vs := [.int .i64 2, .int .i64 ((m : Nat) : Int), .int .i64 ((aN + 1 : Nat) : Int), .int .i64 0, .int .i64 0]) (E := 42) rfl (fun w => by first | (go_simp; done) | (go_simp; rfl))) ?_
                    rintro _ _ ⟨b53, rfl, rfl⟩
                    refine Gx.eff rfl rfl rfl (eff_push (r := (⟨2, ((m : Nat) : Int), ((aN + 1 : Nat) : Int), 0, 0⟩ : Sy)) rfl Try.eM FM_len FM_one rfl rfl (k := 0) rfl rfl (k' := 0) rfl (by simp only [List.length_append, List.length_singleton]; omega) (by simp only [List.length_append, List.length_singleton]; omega)) ?_
                    rintro v54 _ ⟨hiv54, rfl⟩
                    refine Gx.norm (l' := [Hp.own FM 5 v54 ((((cs ++ pairsL bs (tq + 1) c.n ++ [blockS bs (tq + 2)]) ++ votesL aN c.n ++ [blockS aN (tq + 3)]) ++ votesL (aN + 1) m) ++ [(⟨2, ((m : Nat) : Int), ((aN + 1 : Nat) : Int), 0, 0⟩ : Sy)]), Hp.rec_ b23 [.slice sa11 sn12 sc13, .slice sa14 sn15 sc16, .slice sa17 sn18 sc19, .slice sa20 sn21 sc22]]) rfl ?_
                    refine Gx.val rfl rfl rfl (val_assign rfl rfl) ?_
                    refine Gx.done ?_
                    refine Gx.blkN ?_
                    refine Gx.thenN ?_
                    refine Gx.region ?_
                    refine Gx.val rfl rfl rfl (val_move rfl rfl) ?_
                    refine Gx.val rfl rfl rfl (val_add rfl rfl rfl (r := ((m + 1 : Nat) : Int)) (w64 (by omega) (by omega))) ?_
                    refine Gx.val rfl rfl rfl (val_assign rfl rfl) ?_
                    refine Gx.done ?_
                    refine Gx.thenN ?_
                    refine Gx.norm (l' := [Hp.own FM 5 v54 (((cs ++ pairsL bs (tq + 1) c.n ++ [blockS bs (tq + 2)]) ++ votesL aN c.n ++ [blockS aN (tq + 3)]) ++ votesL (aN + 1) (m + 1)), Hp.rec_ b23 [.slice sa11 sn12 sc13, .slice sa14 sn15 sc16, .slice sa17 sn18 sc19, .slice sa20 sn21 sc22]]) (by rw [votesL_succ, ← List.append_assoc] <;> rfl) ?_
                    exact Gx.round (m + 1, v54) ⟨by first | omega | (dsimp only; omega), hiv54⟩ (by first | omega | (dsimp only; omega)) ((.cons rfl (.cons rfl (.cons rfl (.cons rfl (.cons rfl (.cons rfl (.cons rfl (.cons rfl (.cons rfl (.cons rfl .nil))))))))))) rfl
                  · refine Gx.exit ?_
                    refine Gx.thenE ?_
                    refine Gx.thenE ?_
                    refine Gx.blkE ?_
                    refine Gx.thenN ?_
                    refine Gx.seq ?_
                    obtain rfl : m = c.n := by omega
                    refine Gx.norm (l' := [Hp.own FM 5 av (cs ++ goesL c.n bs tq aN), Hp.rec_ b23 [.slice sa11 sn12 sc13, .slice sa14 sn15 sc16, .slice sa17 sn18 sc19, .slice sa20 sn21 sc22]]) (by rw [goesL_eq] <;> rfl) ?_
                    obtain ⟨al, hal⟩ : ∃ al, al = (cs ++ goesL c.n bs tq aN) := ⟨_, rfl⟩
                    have hall : al.length ≤ 120 := by rw [hal, ← goesL_eq]; simp only [List.length_append, List.length_singleton]; omega
                    have hst : stM c (ms0 c.n) al = stM c (stM c (ms0 c.n) cs) (goesL c.n bs tq aN) := by rw [hal, stM_app]
                    obtain ⟨hg1, hg2, hg3⟩ := goes bd ok iv hfw (KnI.run ok cs (KnI.start c) (BdM.start c) (InvM.start c)) (top_run ok (by omega) cs (TopI.start tq c) (BdM.start c) hq hc) hq hbl hbc hbm (by omega) (by omega)
                    rw [← haN, ← hst] at hg1 hg2 hg3
                    have bd2 := BdM.at_ ok al
                    refine Gx.norm (l' := [Hp.own FM 5 av al, Hp.rec_ b23 [.slice sa11 sn12 sc13, .slice sa14 sn15 sc16, .slice sa17 sn18 sc19, .slice sa20 sn21 sc22]]) (by rw [← hal] <;> rfl) ?_
                    refine Gx.region ?_
                    refine Gx.val rfl rfl rfl (val_move rfl rfl) ?_
                    refine Gx.val rfl rfl rfl (val_move rfl rfl) ?_
                    refine Gx.val rfl rfl rfl (val_move rfl rfl) ?_
                    refine Gx.val rfl rfl rfl (val_move rfl rfl) ?_
                    refine Gx.callB rfl rfl rfl (vs := [.int .i64 ((c.n : Nat) : Int), .int .i64 ((f : Nat) : Int), .int .u32 ((c.L : Nat) : Int), av]) rfl Try.fn8 rfl (R := fun v w' => ∃ (cv bv wv dv : Value) (ds : List Bool), v = .tuple #[.agg #[cv, bv, wv, dv], .int .i64 0] ∧ SlS FZ 1 w' cv (codesM c (ms0 c.n) al) ∧ SlS FK 2 w' bv (stM c (ms0 c.n) al).bl ∧ SlS FB 1 w' wv (certL c (stM c (ms0 c.n) al)) ∧ SlS FB 1 w' dv ds ∧ Chn.IsDec (blsP (stM c (ms0 c.n) al).bl) (certL c (stM c (ms0 c.n) al)) (stM c (ms0 c.n) al).bl.length ds) (fun w H => play_ok ((H.at_ (k := 0) rfl).sls (by omega)) h1n h7n (hall) hf hfn hLn hL) ?_
                    rintro _ W61 ⟨cv55, bv56, wv57, dv58, ds59, rfl, hcv55, hbv56, hwv57, hdv58, hds60⟩ H62
                    have hW63 := hW9.trans (H62.below.mono hW9.size)
                    have hs64 := hs10.below H62.below
                    have hs65 := hcv1.below H62.below
                    have hs66 := hbv2.below H62.below
                    have hs67 := hwv3.below H62.below
                    have hs68 := hdv4.below H62.below
                    have hs69 := (H62.at_ (k := 0) rfl).sls (by first | omega | (simp; done) | (simp; omega))
                    have hb70 := (H62.at_ (k := 1) rfl).rec_.1
                    have hc71 := (H62.at_ (k := 1) rfl).cell 0 (u := .slice sa11 sn12 sc13) rfl
                    have hc72 := (H62.at_ (k := 1) rfl).cell 1 (u := .slice sa14 sn15 sc16) rfl
                    have hc73 := (H62.at_ (k := 1) rfl).cell 2 (u := .slice sa17 sn18 sc19) rfl
                    have hc74 := (H62.at_ (k := 1) rfl).cell 3 (u := .slice sa20 sn21 sc22) rfl
                    have hclcv55 : (codesM c (ms0 c.n) al).length = (al).length := codesM_len ..
                    have hwlcv55 : (certL c (stM c (ms0 c.n) al)).length = (stM c (ms0 c.n) al).bl.length := by unfold certL; rw [List.length_map, List.length_range]
                    have hdlcv55 : ds59.length = (stM c (ms0 c.n) al).bl.length := by rw [hds60.1, List.length_map]
                    refine Gx.val rfl rfl rfl (val_move rfl rfl) ?_
                    obtain ⟨sa75, sn76, sc77, rfl⟩ := hcv55.isS
                    obtain ⟨sa78, sn79, sc80, rfl⟩ := hbv56.isS
                    obtain ⟨sa81, sn82, sc83, rfl⟩ := hwv57.isS
                    obtain ⟨sa84, sn85, sc86, rfl⟩ := hdv58.isS
                    refine Gx.val rfl rfl rfl (val_extract rfl rfl rfl) ?_
                    refine Gx.val rfl rfl rfl (val_extract rfl rfl rfl) ?_
                    refine Gx.eff rfl rfl rfl (eff_alloc rfl Try.ty28 (vs := [.slice none 0 0, .slice none 0 0, .slice none 0 0, .slice none 0 0]) rfl) ?_
                    rintro _ _ ⟨b87, rfl, rfl⟩
                    refine Gx.eff0 rfl rfl (eff_store rfl Try.ty28 rfl rfl (us := [.slice sa75 sn76 sc77, .slice sa78 sn79 sc80, .slice sa81 sn82 sc83, .slice sa84 sn85 sc86]) rfl rfl rfl (k := 0) rfl (rfl) (vs' := [.slice sa75 sn76 sc77, .slice sa78 sn79 sc80, .slice sa81 sn82 sc83, .slice sa84 sn85 sc86]) (rfl) (l' := [Hp.rec_ b87 [.slice sa75 sn76 sc77, .slice sa78 sn79 sc80, .slice sa81 sn82 sc83, .slice sa84 sn85 sc86]]) rfl) ?_
                    rintro _ _ rfl
                    refine Gx.val rfl rfl rfl (val_assign rfl rfl) ?_
                    refine Gx.done ?_
                    refine Gx.thenN ?_
                    refine Gx.seq ?_
                    have hda : ds59[aN]? = some true := (hds60.2 _).2 ⟨_, by omega, hg2⟩
                    have hdb : ds59[bs]? = some true := (hds60.2 _).2 ⟨_, by omega, hg3⟩
                    refine Gx.region ?_
                    refine Gx.val rfl rfl rfl (val_move rfl rfl) ?_
                    refine Gx.val rfl rfl rfl (Val.cast (val_eql rfl rfl rfl) (v' := .bool true) rfl) ?_
                    refine Gx.val rfl rfl rfl (val_move rfl rfl) ?_
                    refine Gx.valg rfl rfl rfl rfl rfl (Val.cast (val_loadA rfl Try.ty28 rfl rfl rfl (cells_rec (k := 0) rfl)) (v' := .agg #[.slice sa75 sn76 sc77, .slice sa78 sn79 sc80, .slice sa81 sn82 sc83, .slice sa84 sn85 sc86]) rfl) ?_
                    refine Gx.valg rfl rfl rfl rfl rfl (val_move rfl rfl) ?_
                    refine Gx.valg rfl rfl rfl rfl rfl (val_call (vs := [.agg #[.slice sa75 sn76 sc77, .slice sa78 sn79 sc80, .slice sa81 sn82 sc83, .slice sa84 sn85 sc86], av]) rfl Try.fn9 rfl (fun w H => met_yes (hcv55.below H.below) (hbv56.below H.below) (hwv57.below H.below) (hdv58.below H.below) (hs69.below H.below) (by omega) bd2.okc (by omega) (by omega))) ?_
                    refine Gx.val rfl rfl rfl (val_pickT rfl rfl rfl) ?_
                    refine Gx.val rfl rfl rfl (val_move rfl rfl) ?_
                    refine Gx.valg rfl rfl rfl rfl rfl (Val.cast (val_fieldAddr rfl Try.underlying28 rfl Try.ty25 rfl rfl) (v' := ptr b87 1) rfl) ?_
                    refine Gx.valg rfl rfl rfl rfl rfl (val_load rfl Try.ty25 rfl rfl (cell_rec (k := 0) rfl rfl)) ?_
                    refine Gx.valg rfl rfl rfl rfl rfl (val_len rfl Try.underlying25 rfl (len_base hbv56)) ?_
                    refine Gx.valg rfl rfl rfl rfl rfl (val_move rfl rfl) ?_
                    refine Gx.valg rfl rfl rfl rfl rfl (val_add rfl rfl rfl (r := ((aN + 2 : Nat) : Int)) (w64 (by omega) (by omega))) ?_
                    refine Gx.valg rfl rfl rfl rfl rfl (val_eql rfl rfl rfl) ?_
                    refine Gx.val rfl rfl rfl (val_pickT rfl rfl rfl) ?_
                    refine Gx.val rfl rfl rfl (val_move rfl rfl) ?_
                    refine Gx.slot (t := 210) (v := .bool true) (look_decT rfl (by omega)) ?_
                    refine Gx.valg rfl rfl rfl rfl rfl (Val.cast (val_fieldAddr rfl Try.underlying28 rfl Try.ty26 rfl rfl) (v' := ptr b87 3) rfl) ?_
                    refine Gx.valg rfl rfl rfl rfl rfl (val_load rfl Try.ty26 rfl rfl (cell_rec (k := 0) rfl rfl)) ?_
                    refine Gx.valg rfl rfl rfl rfl rfl (val_move rfl rfl) ?_
                    refine Gx.valg rfl rfl rfl rfl rfl (val_ixa rfl Try.underlying26 Try.ty4 rfl rfl (j := aN) (rfl) (reach_base hdv58 hda)) ?_
                    refine Gx.valg rfl rfl rfl rfl rfl (val_load rfl Try.ty4 rfl rfl (cell_base (i := 0) hdv58 hda rfl)) ?_
                    refine Gx.val rfl rfl rfl (val_pickT rfl rfl rfl) ?_
                    refine Gx.val rfl rfl rfl (val_move rfl rfl) ?_
                    refine Gx.valg rfl rfl rfl rfl rfl (Val.cast (val_fieldAddr rfl Try.underlying28 rfl Try.ty26 rfl rfl) (v' := ptr b87 3) rfl) ?_
                    refine Gx.valg rfl rfl rfl rfl rfl (val_load rfl Try.ty26 rfl rfl (cell_rec (k := 0) rfl rfl)) ?_
                    refine Gx.valg rfl rfl rfl rfl rfl (val_move rfl rfl) ?_
                    refine Gx.valg rfl rfl rfl rfl rfl (val_ixa rfl Try.underlying26 Try.ty4 rfl rfl (j := bs) (rfl) (reach_base hdv58 hdb)) ?_
                    refine Gx.valg rfl rfl rfl rfl rfl (val_load rfl Try.ty4 rfl rfl (cell_base (i := 0) hdv58 hdb rfl)) ?_
                    refine Gx.val rfl rfl rfl (val_pickT rfl rfl rfl) ?_
                    refine Gx.val rfl rfl rfl (val_assign rfl rfl) ?_
                    refine Gx.done ?_
                    refine Gx.thenN ?_
                    refine Gx.ret ?_
                    refine Gx.ret1B hW63 Try.results5 rfl ?_
                    rfl

theorem goes_any {W : World} {k f z : Int} {sv : Value} {cs : List Sy} (hz0 : 0 ≤ z) (hz1 : z < 4294967296) (hs : SlS FM 5 W sv cs) :
    Calls Try.prog 5 #[.int .i64 k, .int .i64 f, .int .u32 z, sv] W fun e w' => e = .returned (.bool true) ∧ Below W.heap.size W w' := by
  obtain ⟨L, rfl⟩ : ∃ L : Nat, z = (L : Int) := ⟨z.toNat, by omega⟩
  have hL : L < 4294967296 := by omega
  by_cases h : Valid k f L cs
  · obtain ⟨h1, h2, h3, h4, h5, h6⟩ := h
    obtain ⟨n, rfl⟩ : ∃ n : Nat, k = (n : Int) := ⟨k.toNat, by omega⟩
    obtain ⟨f', rfl⟩ : ∃ f' : Nat, f = (f' : Int) := ⟨f.toNat, by omega⟩
    rw [Int.toNat_natCast] at h5 h6
    exact goes_yes (c := ⟨n, n - f', L⟩) hs (by dsimp only; omega) (by dsimp only; omega) h3 (by dsimp only; omega) (by dsimp only; omega) h6 hL
  · exact goes_bad hs h
end Go.Proofs.Ytghnahckopokhaa
