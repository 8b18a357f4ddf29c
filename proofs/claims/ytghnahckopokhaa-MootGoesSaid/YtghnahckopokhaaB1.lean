/- No two certified blocks of one round; what is decided is one line; what is locked. The walks. No condition. -/
import Derived.Test.YtghnahckopokhaaA9
import Derived.Test.YtghnahckopokhaaW2
namespace Go.Proofs.Ytghnahckopokhaa
open Go.RowKit
set_option linter.unusedVariables false
set_option linter.unusedSimpArgs false
set_option maxRecDepth 100000

def Valid (k f : Int) (L : Nat) (cs : List Sy) : Prop := 1 ≤ k ∧ k ≤ 7 ∧ cs.length ≤ 120 ∧ 0 ≤ f ∧ f ≤ (((k.toNat - 1) / 3 : Nat) : Int) ∧ L >>> k.toNat = 0
theorem play_bad {W : World} {k f : Int} {L : Nat} {sv : Value} {cs : List Sy} (hs : SlS FM 5 W sv cs) (hbad : ¬ Valid k f L cs) :
    Calls Try.prog 8 #[.int .i64 k, .int .i64 f, .int .u32 ((L : Nat) : Int), sv] W fun e w' => ∃ v, e = .returned v ∧ (∃ z : Int, z ≠ 0 ∧ v = .tuple #[.agg #[.slice none 0 0, .slice none 0 0, .slice none 0 0, .slice none 0 0], .int .i64 z]) ∧ Below W.heap.size W w' := by
  by_cases h1 : k < 1 ∨ 7 < k ∨ 120 < (cs.length : Int)
  · exact (play_no1 hs h1).mono fun e w' ⟨he, hb⟩ => ⟨_, he, ⟨1, by decide, rfl⟩, hb⟩
  obtain ⟨n, rfl⟩ : ∃ n : Nat, k = (n : Int) := ⟨k.toNat, by omega⟩
  by_cases h2 : f < 0 ∨ ((n - 1) / 3 : Nat) < f
  · exact (play_no3 hs (by omega) (by omega) (by omega) h2).mono fun e w' ⟨he, hb⟩ => ⟨_, he, ⟨3, by decide, rfl⟩, hb⟩
  obtain ⟨f', rfl⟩ : ∃ f' : Nat, f = (f' : Int) := ⟨f.toNat, by omega⟩
  refine (play_no2 hs (by omega) (by omega) (by omega) (by omega) ?_).mono fun e w' ⟨he, hb⟩ => ⟨_, he, ⟨2, by decide, rfl⟩, hb⟩
  intro h3
  exact hbad ⟨by omega, by omega, by omega, by omega, by rw [Int.toNat_natCast]; omega, by rw [Int.toNat_natCast]; exact h3⟩
theorem cert_at {c : MC} {s : MS} {b : Nat} {x : Bool} (hx : (certL c s)[b]? = some x) (h : x = true) : certM c s b = true := (on_cert.1 (show (certL c s)[b]? = some true by rw [hx, h])).2
theorem few_of {c : MC} {f : Nat} (h1 : 1 ≤ c.n) (hf : f ≤ (c.n - 1) / 3) (hfn : c.need + f = c.n) (h : fewF c.L (c.n : Int) (f : Int) = true) : Few c f := ⟨few_pop h, by omega, hfn⟩
theorem safe_bad {W : World} {k f : Int} {L : Nat} {sv : Value} {cs : List Sy} (hs : SlS FM 5 W sv cs) (hbad : ¬ Valid k f L cs) :
    Calls Try.prog 3 #[.int .i64 k, .int .i64 f, .int .u32 ((L : Nat) : Int), sv] W fun e w' => e = .returned (.bool true) ∧ Below W.heap.size W w' := by
  refine calls_pure (Gx.enter (l := []) Try.func3 rfl Try.ntmps3 rfl (Sat.start W) ?_)
  refine Gx.know (m' := [(0, .int .i64 k), (1, .int .i64 f), (2, .int .u32 ((L : Nat) : Int)), (3, sv)]) (.cons rfl (.cons rfl (.cons rfl (.cons rfl .nil)))) ?_
  refine Gx.seq ?_
  refine Gx.region ?_
  refine Gx.val rfl rfl rfl (val_assign rfl rfl) ?_
  refine Gx.done ?_
  refine Gx.thenN ?_
  refine Gx.seq ?_
  refine Gx.region ?_
  refine Gx.val rfl rfl rfl (val_move rfl rfl) ?_
  refine Gx.val rfl rfl rfl (val_move rfl rfl) ?_
  refine Gx.val rfl rfl rfl (val_move rfl rfl) ?_
  refine Gx.val rfl rfl rfl (val_move rfl rfl) ?_
  refine Gx.eff rfl rfl rfl (eff_callE (vs := [.int .i64 k, .int .i64 f, .int .u32 ((L : Nat) : Int), sv]) rfl Try.fn8 rfl (R := fun v => ∃ z : Int, z ≠ 0 ∧ v = .tuple #[.agg #[.slice none 0 0, .slice none 0 0, .slice none 0 0, .slice none 0 0], .int .i64 z]) (fun w H => play_bad (hs.below H.below) hbad)) ?_
  rintro _ _ ⟨⟨zz1, hzz2, rfl⟩, rfl⟩
  refine Gx.val rfl rfl rfl (val_move rfl rfl) ?_
  refine Gx.val rfl rfl rfl (val_extract rfl rfl rfl) ?_
  refine Gx.val rfl rfl rfl (val_extract rfl rfl rfl) ?_
  refine Gx.eff rfl rfl rfl (eff_alloc rfl Try.ty28 (vs := [.slice none 0 0, .slice none 0 0, .slice none 0 0, .slice none 0 0]) rfl) ?_
  rintro _ _ ⟨b3, rfl, rfl⟩
  refine Gx.eff0 rfl rfl (eff_store rfl Try.ty28 rfl rfl (us := [.slice none 0 0, .slice none 0 0, .slice none 0 0, .slice none 0 0]) rfl rfl rfl (k := 0) rfl (rfl) (vs' := [.slice none 0 0, .slice none 0 0, .slice none 0 0, .slice none 0 0]) (rfl) (l' := [Hp.rec_ b3 [.slice none 0 0, .slice none 0 0, .slice none 0 0, .slice none 0 0]]) rfl) ?_
  rintro _ _ rfl
  refine Gx.val rfl rfl rfl (val_assign rfl rfl) ?_
  refine Gx.done ?_
  refine Gx.thenN ?_
  refine Gx.seq ?_
  refine Gx.seq ?_
  refine Gx.region ?_
  refine Gx.val rfl rfl rfl (val_move rfl rfl) ?_
  refine Gx.val rfl rfl rfl (val_neq rfl rfl rfl) ?_
  refine Gx.done ?_
  refine Gx.thenN ?_
  refine Gx.decT rfl (by omega) ?_
  refine Gx.seq ?_
  refine Gx.region ?_
  refine Gx.val rfl rfl rfl (Val.cast (val_fieldAddr rfl Try.underlying28 rfl Try.ty24 rfl rfl) (v' := ptr b3 0) rfl) ?_
  refine Gx.val rfl rfl rfl (val_load rfl Try.ty24 rfl rfl (cell_rec (k := 0) rfl rfl)) ?_
  refine Gx.val rfl rfl rfl (val_len rfl Try.underlying24 rfl len_lit) ?_
  refine Gx.val rfl rfl rfl (Val.cast (val_eql rfl rfl rfl) (v' := .bool true) rfl) ?_
  refine Gx.val rfl rfl rfl (val_assign rfl rfl) ?_
  refine Gx.done ?_
  refine Gx.thenN ?_
  refine Gx.ret ?_
  refine Gx.thenR ?_
  refine Gx.ret1 Try.results3 rfl ?_
  first | rfl | exact congrArg Value.bool (decide_eq_true rfl)

theorem safe_yes {W : World} {c : MC} {f : Nat} {sv : Value} {cs : List Sy} (hs : SlS FM 5 W sv cs) (h1n : 1 ≤ c.n) (h7n : c.n ≤ 7) (hcl : cs.length ≤ 120) (hf : f ≤ (c.n - 1) / 3) (hfn : c.need + f = c.n) (hLn : c.L >>> c.n = 0) (hL : c.L < 4294967296) :
    Calls Try.prog 3 #[.int .i64 ((c.n : Nat) : Int), .int .i64 ((f : Nat) : Int), .int .u32 ((c.L : Nat) : Int), sv] W fun e w' => e = .returned (.bool true) ∧ Below W.heap.size W w' := by
  have ok : OkM c := ⟨h7n, by omega, hL⟩
  have bd := BdM.at_ ok cs
  have iv := InvM.run ok cs (BdM.start c) (InvM.start c)
  have hb40 := bd.b40
  have hpos := bd.pos
  refine calls_pure (Gx.enter (l := []) Try.func3 rfl Try.ntmps3 rfl (Sat.start W) ?_)
  refine Gx.know (m' := [(0, .int .i64 ((c.n : Nat) : Int)), (1, .int .i64 ((f : Nat) : Int)), (2, .int .u32 ((c.L : Nat) : Int)), (3, sv)]) (.cons rfl (.cons rfl (.cons rfl (.cons rfl .nil)))) ?_
  refine Gx.seq ?_
  refine Gx.region ?_
  refine Gx.val rfl rfl rfl (val_assign rfl rfl) ?_
  refine Gx.done ?_
  refine Gx.thenN ?_
  refine Gx.seq ?_
  refine Gx.region ?_
  refine Gx.val rfl rfl rfl (val_move rfl rfl) ?_
  refine Gx.val rfl rfl rfl (val_move rfl rfl) ?_
  refine Gx.val rfl rfl rfl (val_move rfl rfl) ?_
  refine Gx.val rfl rfl rfl (val_move rfl rfl) ?_
  refine Gx.callB rfl rfl rfl (vs := [.int .i64 ((c.n : Nat) : Int), .int .i64 ((f : Nat) : Int), .int .u32 ((c.L : Nat) : Int), sv]) rfl Try.fn8 rfl (R := fun v w' => ∃ (cv bv wv dv : Value) (ds : List Bool), v = .tuple #[.agg #[cv, bv, wv, dv], .int .i64 0] ∧ SlS FZ 1 w' cv (codesM c (ms0 c.n) cs) ∧ SlS FK 2 w' bv (stM c (ms0 c.n) cs).bl ∧ SlS FB 1 w' wv (certL c (stM c (ms0 c.n) cs)) ∧ SlS FB 1 w' dv ds ∧ Chn.IsDec (blsP (stM c (ms0 c.n) cs).bl) (certL c (stM c (ms0 c.n) cs)) (stM c (ms0 c.n) cs).bl.length ds) (fun w H => play_ok (hs.below H.below) h1n h7n (by omega) hf hfn hLn hL) ?_
  rintro _ W7 ⟨cv1, bv2, wv3, dv4, ds5, rfl, hcv1, hbv2, hwv3, hdv4, hds6⟩ H8
  have hW9 := H8.below
  have hs10 := hs.below H8.below
  have hclcv1 : (codesM c (ms0 c.n) cs).length = (cs).length := codesM_len ..
  have hwlcv1 : (certL c (stM c (ms0 c.n) cs)).length = (stM c (ms0 c.n) cs).bl.length := by unfold certL; rw [List.length_map, List.length_range]
  have hdlcv1 : ds5.length = (stM c (ms0 c.n) cs).bl.length := by rw [hds6.1, List.length_map]
  refine Gx.val rfl rfl rfl (val_move rfl rfl) ?_
  obtain ⟨sa11, sn12, sc13, rfl⟩ := hcv1.isS
  obtain ⟨sa14, sn15, sc16, rfl⟩ := hbv2.isS
  obtain ⟨sa17, sn18, sc19, rfl⟩ := hwv3.isS
  obtain ⟨sa20, sn21, sc22, rfl⟩ := hdv4.isS
  refine Gx.val rfl rfl rfl (val_extract rfl rfl rfl) ?_
  refine Gx.val rfl rfl rfl (val_extract rfl rfl rfl) ?_
  refine Gx.eff rfl rfl rfl (eff_alloc rfl Try.ty28 (vs := [.slice none 0 0, .slice none 0 0, .slice none 0 0, .slice none 0 0]) rfl) ?_
  rintro _ _ ⟨b23, rfl, rfl⟩
  refine Gx.eff0 rfl rfl (eff_store rfl Try.ty28 rfl rfl (us := [.slice sa11 sn12 sc13, .slice sa14 sn15 sc16, .slice sa17 sn18 sc19, .slice sa20 sn21 sc22]) rfl rfl rfl (k := 0) rfl (rfl) (vs' := [.slice sa11 sn12 sc13, .slice sa14 sn15 sc16, .slice sa17 sn18 sc19, .slice sa20 sn21 sc22]) (rfl) (l' := [Hp.rec_ b23 [.slice sa11 sn12 sc13, .slice sa14 sn15 sc16, .slice sa17 sn18 sc19, .slice sa20 sn21 sc22]]) rfl) ?_
  rintro _ _ rfl
  refine Gx.val rfl rfl rfl (val_assign rfl rfl) ?_
  refine Gx.done ?_
  refine Gx.thenN ?_
  refine Gx.seq ?_
  refine Gx.seq ?_
  refine Gx.region ?_
  refine Gx.val rfl rfl rfl (val_move rfl rfl) ?_
  refine Gx.val rfl rfl rfl (Val.cast (val_neq rfl rfl rfl) (v' := .bool false) rfl) ?_
  refine Gx.done ?_
  refine Gx.thenN ?_
  refine Gx.f rfl ?_
  refine Gx.skip ?_
  refine Gx.thenN ?_
  refine Gx.seq ?_
  refine Gx.seq ?_
  refine Gx.region ?_
  refine Gx.val rfl rfl rfl (Val.cast (val_loadA rfl Try.ty28 rfl rfl rfl (cells_rec (k := 0) rfl)) (v' := .agg #[.slice sa11 sn12 sc13, .slice sa14 sn15 sc16, .slice sa17 sn18 sc19, .slice sa20 sn21 sc22]) rfl) ?_
  refine Gx.val rfl rfl rfl (val_move rfl rfl) ?_
  refine Gx.val rfl rfl rfl (val_call (vs := [.agg #[.slice sa11 sn12 sc13, .slice sa14 sn15 sc16, .slice sa17 sn18 sc19, .slice sa20 sn21 sc22], sv]) rfl Try.fn9 rfl (fun w H => met_yes (hcv1.below H.below) (hbv2.below H.below) (hwv3.below H.below) (hdv4.below H.below) (hs10.below H.below) (by omega) bd.okc (by omega) (by omega))) ?_
  refine Gx.val rfl rfl rfl (Val.cast (val_not rfl rfl) (v' := .bool false) rfl) ?_
  refine Gx.done ?_
  refine Gx.thenN ?_
  refine Gx.f rfl ?_
  refine Gx.skip ?_
  refine Gx.thenN ?_
  refine Gx.seq ?_
  refine Gx.seq ?_
  refine Gx.region ?_
  refine Gx.val rfl rfl rfl (val_move rfl rfl) ?_
  refine Gx.val rfl rfl rfl (val_move rfl rfl) ?_
  refine Gx.val rfl rfl rfl (val_move rfl rfl) ?_
  refine Gx.val rfl rfl rfl (val_call (vs := [.int .u32 ((c.L : Nat) : Int), .int .i64 ((c.n : Nat) : Int), .int .i64 ((f : Nat) : Int)]) rfl Try.fn10 rfl (fun w H => few_c hL (by omega) (by omega))) ?_
  refine Gx.val rfl rfl rfl (val_not rfl rfl) ?_
  refine Gx.done ?_
  refine Gx.thenN ?_
  refine Gx.bool rfl (fun h24 => ?_) (fun h24 => ?_)
  · refine Gx.seq ?_
    refine Gx.region ?_
    refine Gx.val rfl rfl rfl (val_assign rfl rfl) ?_
    refine Gx.done ?_
    refine Gx.thenN ?_
    refine Gx.ret ?_
    refine Gx.thenR ?_
    refine Gx.ret1B hW9 Try.results3 rfl ?_
    rfl
  · refine Gx.skip ?_
    refine Gx.thenN ?_
    refine Gx.seq ?_
    refine Gx.seq ?_
    have hfw : Few c f := few_of h1n hf hfn (by simpa using h24)
    refine Gx.region ?_
    refine Gx.val rfl rfl rfl (val_assign rfl rfl) ?_
    refine Gx.done ?_
    refine Gx.thenN ?_
    refine Gx.block ?_
    refine Gx.loop (ι := Nat) (fun ξ => (ξ ≤ (stM c (ms0 c.n) cs).bl.length)) (fun ξ => [(9, ptr b23 0), (11, .int .i64 ((ξ : Nat) : Int))]) (fun ξ => [Hp.rec_ b23 [.slice sa11 sn12 sc13, .slice sa14 sn15 sc16, .slice sa17 sn18 sc19, .slice sa20 sn21 sc22]]) (fun ξ => (stM c (ms0 c.n) cs).bl.length - ξ) 0 (by first | omega | (dsimp only; omega)) ((.cons rfl (.cons rfl .nil))) rfl ?_
    rintro a ha
    refine Gx.know (m' := [(9, ptr b23 0), (11, .int .i64 ((a : Nat) : Int))]) (.cons rfl (.cons rfl .nil)) (Gx.norm (l' := [Hp.rec_ b23 [.slice sa11 sn12 sc13, .slice sa14 sn15 sc16, .slice sa17 sn18 sc19, .slice sa20 sn21 sc22]]) rfl ?_)
    refine Gx.seq ?_
    refine Gx.seq ?_
    refine Gx.region ?_
    refine Gx.val rfl rfl rfl (val_move rfl rfl) ?_
    refine Gx.val rfl rfl rfl (Val.cast (val_fieldAddr rfl Try.underlying28 rfl Try.ty25 rfl rfl) (v' := ptr b23 1) rfl) ?_
    refine Gx.val rfl rfl rfl (val_load rfl Try.ty25 rfl rfl (cell_rec (k := 0) rfl rfl)) ?_
    refine Gx.val rfl rfl rfl (val_len rfl Try.underlying25 rfl (len_base hbv2)) ?_
    refine Gx.val rfl rfl rfl (val_lss rfl rfl rfl) ?_
    refine Gx.done ?_
    refine Gx.thenN ?_
    refine Gx.dec rfl (fun h25 => ?_) (fun h25 => ?_)
    · refine Gx.skip ?_
      refine Gx.thenN ?_
      refine Gx.seq ?_
      refine Gx.block ?_
      refine Gx.seq ?_
      refine Gx.region ?_
      refine Gx.val rfl rfl rfl (val_assign rfl rfl) ?_
      refine Gx.done ?_
      refine Gx.thenN ?_
      refine Gx.block ?_
      refine Gx.loop (ι := Nat) (fun ξ => (ξ ≤ a)) (fun ξ => [(9, ptr b23 0), (11, .int .i64 ((a : Nat) : Int)), (12, .int .i64 ((ξ : Nat) : Int))]) (fun ξ => [Hp.rec_ b23 [.slice sa11 sn12 sc13, .slice sa14 sn15 sc16, .slice sa17 sn18 sc19, .slice sa20 sn21 sc22]]) (fun ξ => a - ξ) 0 (by first | omega | (dsimp only; omega)) ((.cons rfl (.cons rfl (.cons rfl .nil)))) rfl ?_
      rintro b hb
      refine Gx.know (m' := [(9, ptr b23 0), (11, .int .i64 ((a : Nat) : Int)), (12, .int .i64 ((b : Nat) : Int))]) (.cons rfl (.cons rfl (.cons rfl .nil))) (Gx.norm (l' := [Hp.rec_ b23 [.slice sa11 sn12 sc13, .slice sa14 sn15 sc16, .slice sa17 sn18 sc19, .slice sa20 sn21 sc22]]) rfl ?_)
      refine Gx.seq ?_
      refine Gx.seq ?_
      refine Gx.region ?_
      refine Gx.val rfl rfl rfl (val_move rfl rfl) ?_
      refine Gx.val rfl rfl rfl (val_move rfl rfl) ?_
      refine Gx.val rfl rfl rfl (val_lss rfl rfl rfl) ?_
      refine Gx.done ?_
      refine Gx.thenN ?_
      refine Gx.dec rfl (fun h26 => ?_) (fun h26 => ?_)
      · refine Gx.skip ?_
        refine Gx.thenN ?_
        refine Gx.seq ?_
        refine Gx.block ?_
        refine Gx.seq ?_
        refine Gx.seq ?_
        obtain ⟨xa, hxa⟩ := get_of_lt (xs := (stM c (ms0 c.n) cs).bl) (k := a) (by omega)
        obtain ⟨ya, hya⟩ := get_of_lt (xs := certL c (stM c (ms0 c.n) cs)) (k := a) (by omega)
        obtain ⟨za, hza⟩ := get_of_lt (xs := ds5) (k := a) (by omega)
        obtain ⟨xb, hxb⟩ := get_of_lt (xs := (stM c (ms0 c.n) cs).bl) (k := b) (by omega)
        obtain ⟨yb, hyb⟩ := get_of_lt (xs := certL c (stM c (ms0 c.n) cs)) (k := b) (by omega)
        obtain ⟨zb, hzb⟩ := get_of_lt (xs := ds5) (k := b) (by omega)
        refine Gx.regionQ Try.mixed (by kernel_rfl) ?_
        refine Gq.val rfl rfl rfl (Val.cast (val_fieldAddr rfl Try.underlying28 rfl Try.ty26 rfl rfl) (v' := ptr b23 2) rfl) ?_
        refine Gq.val rfl rfl rfl (val_load rfl Try.ty26 rfl rfl (cell_rec (k := 0) rfl rfl)) ?_
        refine Gq.val rfl rfl rfl (val_move rfl rfl) ?_
        refine Gq.val rfl rfl rfl (val_ixa rfl Try.underlying26 Try.ty4 rfl rfl (j := a) (rfl) (reach_base hwv3 hya)) ?_
        refine Gq.val rfl rfl rfl (val_load rfl Try.ty4 rfl rfl (cell_base (i := 0) hwv3 hya rfl)) ?_
        refine Gq.val rfl rfl rfl (val_move rfl rfl) ?_
        refine Gq.casesB (t := 53) rfl (fun h27 => ?_) (fun h27 => ?_)
        · refine Gq.valg rfl rfl rfl rfl rfl (Val.cast (val_fieldAddr rfl Try.underlying28 rfl Try.ty26 rfl rfl) (v' := ptr b23 2) rfl) ?_
          refine Gq.valg rfl rfl rfl rfl rfl (val_load rfl Try.ty26 rfl rfl (cell_rec (k := 0) rfl rfl)) ?_
          refine Gq.valg rfl rfl rfl rfl rfl (val_move rfl rfl) ?_
          refine Gq.valg rfl rfl rfl rfl rfl (val_ixa rfl Try.underlying26 Try.ty4 rfl rfl (j := b) (rfl) (reach_base hwv3 hyb)) ?_
          refine Gq.valg rfl rfl rfl rfl rfl (val_load rfl Try.ty4 rfl rfl (cell_base (i := 0) hwv3 hyb rfl)) ?_
          refine Gq.val rfl rfl rfl (val_pickT rfl rfl rfl) ?_
          refine Gq.val rfl rfl rfl (val_move rfl rfl) ?_
          refine Gq.casesB (t := 60) rfl (fun h28 => ?_) (fun h28 => ?_)
          · refine Gq.valg rfl rfl rfl rfl rfl (Val.cast (val_fieldAddr rfl Try.underlying28 rfl Try.ty25 rfl rfl) (v' := ptr b23 1) rfl) ?_
            refine Gq.valg rfl rfl rfl rfl rfl (val_load rfl Try.ty25 rfl rfl (cell_rec (k := 0) rfl rfl)) ?_
            refine Gq.valg rfl rfl rfl rfl rfl (val_move rfl rfl) ?_
            refine Gq.valg rfl rfl rfl rfl rfl (val_ixa rfl Try.underlying25 Try.ty35 rfl rfl (j := a) (rfl) (reach_base hbv2 hxa)) ?_
            refine Gq.valg rfl rfl rfl rfl rfl (Val.cast (val_fieldAddr rfl Try.underlying35 rfl Try.ty3 rfl rfl) (v' := ptr (sB (.slice sa14 sn15 sc16)) (sO (.slice sa14 sn15 sc16) + a * 2 + 1)) rfl) ?_
            refine Gq.valg rfl rfl rfl rfl rfl (val_load rfl Try.ty3 rfl rfl (cell_base (i := 1) hbv2 hxa rfl)) ?_
            refine Gq.valg rfl rfl rfl rfl rfl (Val.cast (val_fieldAddr rfl Try.underlying28 rfl Try.ty25 rfl rfl) (v' := ptr b23 1) rfl) ?_
            refine Gq.valg rfl rfl rfl rfl rfl (val_load rfl Try.ty25 rfl rfl (cell_rec (k := 0) rfl rfl)) ?_
            refine Gq.valg rfl rfl rfl rfl rfl (val_move rfl rfl) ?_
            refine Gq.valg rfl rfl rfl rfl rfl (val_ixa rfl Try.underlying25 Try.ty35 rfl rfl (j := b) (rfl) (reach_base hbv2 hxb)) ?_
            refine Gq.valg rfl rfl rfl rfl rfl (Val.cast (val_fieldAddr rfl Try.underlying35 rfl Try.ty3 rfl rfl) (v' := ptr (sB (.slice sa14 sn15 sc16)) (sO (.slice sa14 sn15 sc16) + b * 2 + 1)) rfl) ?_
            refine Gq.valg rfl rfl rfl rfl rfl (val_load rfl Try.ty3 rfl rfl (cell_base (i := 1) hbv2 hxb rfl)) ?_
            refine Gq.valg rfl rfl rfl rfl rfl (val_eql rfl rfl rfl) ?_
            refine Gq.val rfl rfl rfl (val_pickT rfl rfl rfl) ?_
            refine Gq.done ?_
            refine Gx.thenN ?_
            refine Gx.dec rfl (fun h29 => ?_) (fun h29 => ?_)
            · have e9 := one_round bd ok iv hfw (a := a) (b := b) (by omega) (by omega) (cert_at hya h27) (cert_at hyb h28) (by rw [rndM_of hxa, rndM_of hxb]; omega)
              omega
            · refine Gx.skip ?_
              refine Gx.thenN ?_
              refine Gx.seq ?_
              refine Gx.region ?_
              refine Gx.val rfl rfl rfl (Val.cast (val_fieldAddr rfl Try.underlying28 rfl Try.ty26 rfl rfl) (v' := ptr b23 3) rfl) ?_
              refine Gx.val rfl rfl rfl (val_load rfl Try.ty26 rfl rfl (cell_rec (k := 0) rfl rfl)) ?_
              refine Gx.val rfl rfl rfl (val_move rfl rfl) ?_
              refine Gx.val rfl rfl rfl (val_ixa rfl Try.underlying26 Try.ty4 rfl rfl (j := a) (rfl) (reach_base hdv4 hza)) ?_
              refine Gx.val rfl rfl rfl (val_load rfl Try.ty4 rfl rfl (cell_base (i := 0) hdv4 hza rfl)) ?_
              refine Gx.val rfl rfl rfl (val_move rfl rfl) ?_
              refine Gx.casesB (t := 80) rfl (fun h30 => ?_) (fun h30 => ?_)
              · refine Gx.valg rfl rfl rfl rfl rfl (Val.cast (val_fieldAddr rfl Try.underlying28 rfl Try.ty26 rfl rfl) (v' := ptr b23 3) rfl) ?_
                refine Gx.valg rfl rfl rfl rfl rfl (val_load rfl Try.ty26 rfl rfl (cell_rec (k := 0) rfl rfl)) ?_
                refine Gx.valg rfl rfl rfl rfl rfl (val_move rfl rfl) ?_
                refine Gx.valg rfl rfl rfl rfl rfl (val_ixa rfl Try.underlying26 Try.ty4 rfl rfl (j := b) (rfl) (reach_base hdv4 hzb)) ?_
                refine Gx.valg rfl rfl rfl rfl rfl (val_load rfl Try.ty4 rfl rfl (cell_base (i := 0) hdv4 hzb rfl)) ?_
                refine Gx.val rfl rfl rfl (val_pickT rfl rfl rfl) ?_
                refine Gx.val rfl rfl rfl (val_move rfl rfl) ?_
                refine Gx.casesB (t := 87) rfl (fun h31 => ?_) (fun h31 => ?_)
                · refine Gx.valg rfl rfl rfl rfl rfl (Val.cast (val_fieldAddr rfl Try.underlying28 rfl Try.ty25 rfl rfl) (v' := ptr b23 1) rfl) ?_
                  refine Gx.valg rfl rfl rfl rfl rfl (val_load rfl Try.ty25 rfl rfl (cell_rec (k := 0) rfl rfl)) ?_
                  refine Gx.valg rfl rfl rfl rfl rfl (val_move rfl rfl) ?_
                  refine Gx.effg rfl rfl rfl rfl rfl (eff_callN (vs := [.slice sa14 sn15 sc16, .int .i64 ((a : Nat) : Int)]) rfl Try.fn12 rfl (fun w H => path_any bd.okc hb40 a a (Nat.le_refl _) (by omega) (hbv2.below H.below) (by omega))) ?_
                  rintro pv _ ⟨_, ⟨hpv, rfl⟩, rfl⟩
                  refine Gx.norm (l' := [Hp.own FI 1 pv (pthN (blsP (stM c (ms0 c.n) cs).bl) a a), Hp.rec_ b23 [.slice sa11 sn12 sc13, .slice sa14 sn15 sc16, .slice sa17 sn18 sc19, .slice sa20 sn21 sc22]]) rfl ?_
                  refine Gx.valg rfl rfl rfl rfl rfl (val_move rfl rfl) ?_
                  refine Gx.effg rfl rfl rfl rfl rfl (eff_callE (vs := [pv, .int .i64 ((b : Nat) : Int)]) rfl Try.fn11 rfl (R := fun v => ∃ p9 : Int, v = .int .i64 p9 ∧ (p9 < 0 ↔ ((b : Nat) : Int) ∉ (pthN (blsP (stM c (ms0 c.n) cs).bl) a a))) (fun w H => position_any ((H.at_ (k := 0) rfl).sls (by have := pthN_len (blsP (stM c (ms0 c.n) cs).bl) a a; omega)))) ?_
                  rintro _ _ ⟨⟨ps32, rfl, hps32⟩, rfl⟩
                  refine Gx.valg rfl rfl rfl rfl rfl (val_lss rfl rfl rfl) ?_
                  refine Gx.val rfl rfl rfl (val_pickT rfl rfl rfl) ?_
                  refine Gx.done ?_
                  refine Gx.thenN ?_
                  refine Gx.dec rfl (fun h33 => ?_) (fun h33 => ?_)
                  · obtain ⟨ka, _, hka⟩ := (hds6.2 a).1 (show ds5[a]? = some true by rw [hza, h30])
                    obtain ⟨kb, _, hkb⟩ := (hds6.2 b).1 (show ds5[b]? = some true by rw [hzb, h31])
                    exact absurd ((pthN_mem bd.okc (Nat.le_refl a) (by rw [List.length_map]; omega)).2 (dec_line bd ok iv hfw (by omega) hka hkb)) (hps32.1 h33)
                  · refine Gx.skip ?_
                    refine Gx.blkN ?_
                    refine Gx.thenN ?_
                    refine Gx.region ?_
                    refine Gx.val rfl rfl rfl (val_move rfl rfl) ?_
                    refine Gx.val rfl rfl rfl (val_add rfl rfl rfl (r := ((b + 1 : Nat) : Int)) (w64 (by omega) (by omega))) ?_
                    refine Gx.val rfl rfl rfl (val_assign rfl rfl) ?_
                    refine Gx.done ?_
                    refine Gx.thenN ?_
                    refine Gx.drop 0 rfl ?_
                    exact Gx.round (b + 1) (by first | omega | (dsimp only; omega)) (by first | omega | (dsimp only; omega)) ((.cons rfl (.cons rfl (.cons rfl .nil)))) rfl
                · refine Gx.skipg rfl rfl rfl rfl rfl rfl ?_
                  refine Gx.skipg rfl rfl rfl rfl rfl rfl ?_
                  refine Gx.skipg rfl rfl rfl rfl rfl rfl ?_
                  refine Gx.skipg rfl rfl rfl rfl rfl rfl ?_
                  refine Gx.skipg rfl rfl rfl rfl rfl rfl ?_
                  refine Gx.skipg rfl rfl rfl rfl rfl rfl ?_
                  refine Gx.skipg rfl rfl rfl rfl rfl rfl ?_
                  refine Gx.val rfl rfl rfl (val_pickF rfl rfl rfl) ?_
                  refine Gx.done ?_
                  refine Gx.thenN ?_
                  refine Gx.f rfl ?_
                  refine Gx.skip ?_
                  refine Gx.blkN ?_
                  refine Gx.thenN ?_
                  refine Gx.region ?_
                  refine Gx.val rfl rfl rfl (val_move rfl rfl) ?_
                  refine Gx.val rfl rfl rfl (val_add rfl rfl rfl (r := ((b + 1 : Nat) : Int)) (w64 (by omega) (by omega))) ?_
                  refine Gx.val rfl rfl rfl (val_assign rfl rfl) ?_
                  refine Gx.done ?_
                  refine Gx.thenN ?_
                  exact Gx.round (b + 1) (by first | omega | (dsimp only; omega)) (by first | omega | (dsimp only; omega)) ((.cons rfl (.cons rfl (.cons rfl .nil)))) rfl
              · refine Gx.skipg rfl rfl rfl rfl rfl rfl ?_
                refine Gx.skipg rfl rfl rfl rfl rfl rfl ?_
                refine Gx.skipg rfl rfl rfl rfl rfl rfl ?_
                refine Gx.skipg rfl rfl rfl rfl rfl rfl ?_
                refine Gx.skipg rfl rfl rfl rfl rfl rfl ?_
                refine Gx.val rfl rfl rfl (val_pickF rfl rfl rfl) ?_
                refine Gx.val rfl rfl rfl (val_move rfl rfl) ?_
                refine Gx.skipg rfl rfl rfl rfl rfl rfl ?_
                refine Gx.skipg rfl rfl rfl rfl rfl rfl ?_
                refine Gx.skipg rfl rfl rfl rfl rfl rfl ?_
                refine Gx.skipg rfl rfl rfl rfl rfl rfl ?_
                refine Gx.skipg rfl rfl rfl rfl rfl rfl ?_
                refine Gx.skipg rfl rfl rfl rfl rfl rfl ?_
                refine Gx.skipg rfl rfl rfl rfl rfl rfl ?_
                refine Gx.val rfl rfl rfl (val_pickF rfl rfl rfl) ?_
                refine Gx.done ?_
                refine Gx.thenN ?_
                refine Gx.f rfl ?_
                refine Gx.skip ?_
                refine Gx.blkN ?_
                refine Gx.thenN ?_
                refine Gx.region ?_
                refine Gx.val rfl rfl rfl (val_move rfl rfl) ?_
                refine Gx.val rfl rfl rfl (val_add rfl rfl rfl (r := ((b + 1 : Nat) : Int)) (w64 (by omega) (by omega))) ?_
                refine Gx.val rfl rfl rfl (val_assign rfl rfl) ?_
                refine Gx.done ?_
                refine Gx.thenN ?_
                exact Gx.round (b + 1) (by first | omega | (dsimp only; omega)) (by first | omega | (dsimp only; omega)) ((.cons rfl (.cons rfl (.cons rfl .nil)))) rfl
          · refine Gq.skipg rfl rfl rfl rfl rfl rfl ?_
            refine Gq.skipg rfl rfl rfl rfl rfl rfl ?_
            refine Gq.skipg rfl rfl rfl rfl rfl rfl ?_
            refine Gq.skipg rfl rfl rfl rfl rfl rfl ?_
            refine Gq.skipg rfl rfl rfl rfl rfl rfl ?_
            refine Gq.skipg rfl rfl rfl rfl rfl rfl ?_
            refine Gq.skipg rfl rfl rfl rfl rfl rfl ?_
            refine Gq.skipg rfl rfl rfl rfl rfl rfl ?_
            refine Gq.skipg rfl rfl rfl rfl rfl rfl ?_
            refine Gq.skipg rfl rfl rfl rfl rfl rfl ?_
            refine Gq.skipg rfl rfl rfl rfl rfl rfl ?_
            refine Gq.skipg rfl rfl rfl rfl rfl rfl ?_
            refine Gq.skipg rfl rfl rfl rfl rfl rfl ?_
            refine Gq.val rfl rfl rfl (val_pickF rfl rfl rfl) ?_
            refine Gq.done ?_
            refine Gx.thenN ?_
            refine Gx.f rfl ?_
            refine Gx.skip ?_
            refine Gx.thenN ?_
            refine Gx.seq ?_
            refine Gx.region ?_
            refine Gx.val rfl rfl rfl (Val.cast (val_fieldAddr rfl Try.underlying28 rfl Try.ty26 rfl rfl) (v' := ptr b23 3) rfl) ?_
            refine Gx.val rfl rfl rfl (val_load rfl Try.ty26 rfl rfl (cell_rec (k := 0) rfl rfl)) ?_
            refine Gx.val rfl rfl rfl (val_move rfl rfl) ?_
            refine Gx.val rfl rfl rfl (val_ixa rfl Try.underlying26 Try.ty4 rfl rfl (j := a) (rfl) (reach_base hdv4 hza)) ?_
            refine Gx.val rfl rfl rfl (val_load rfl Try.ty4 rfl rfl (cell_base (i := 0) hdv4 hza rfl)) ?_
            refine Gx.val rfl rfl rfl (val_move rfl rfl) ?_
            refine Gx.casesB (t := 80) rfl (fun h34 => ?_) (fun h34 => ?_)
            · refine Gx.valg rfl rfl rfl rfl rfl (Val.cast (val_fieldAddr rfl Try.underlying28 rfl Try.ty26 rfl rfl) (v' := ptr b23 3) rfl) ?_
              refine Gx.valg rfl rfl rfl rfl rfl (val_load rfl Try.ty26 rfl rfl (cell_rec (k := 0) rfl rfl)) ?_
              refine Gx.valg rfl rfl rfl rfl rfl (val_move rfl rfl) ?_
              refine Gx.valg rfl rfl rfl rfl rfl (val_ixa rfl Try.underlying26 Try.ty4 rfl rfl (j := b) (rfl) (reach_base hdv4 hzb)) ?_
              refine Gx.valg rfl rfl rfl rfl rfl (val_load rfl Try.ty4 rfl rfl (cell_base (i := 0) hdv4 hzb rfl)) ?_
              refine Gx.val rfl rfl rfl (val_pickT rfl rfl rfl) ?_
              refine Gx.val rfl rfl rfl (val_move rfl rfl) ?_
              refine Gx.casesB (t := 87) rfl (fun h35 => ?_) (fun h35 => ?_)
              · refine Gx.valg rfl rfl rfl rfl rfl (Val.cast (val_fieldAddr rfl Try.underlying28 rfl Try.ty25 rfl rfl) (v' := ptr b23 1) rfl) ?_
                refine Gx.valg rfl rfl rfl rfl rfl (val_load rfl Try.ty25 rfl rfl (cell_rec (k := 0) rfl rfl)) ?_
                refine Gx.valg rfl rfl rfl rfl rfl (val_move rfl rfl) ?_
                refine Gx.effg rfl rfl rfl rfl rfl (eff_callN (vs := [.slice sa14 sn15 sc16, .int .i64 ((a : Nat) : Int)]) rfl Try.fn12 rfl (fun w H => path_any bd.okc hb40 a a (Nat.le_refl _) (by omega) (hbv2.below H.below) (by omega))) ?_
                rintro pv _ ⟨_, ⟨hpv, rfl⟩, rfl⟩
                refine Gx.norm (l' := [Hp.own FI 1 pv (pthN (blsP (stM c (ms0 c.n) cs).bl) a a), Hp.rec_ b23 [.slice sa11 sn12 sc13, .slice sa14 sn15 sc16, .slice sa17 sn18 sc19, .slice sa20 sn21 sc22]]) rfl ?_
                refine Gx.valg rfl rfl rfl rfl rfl (val_move rfl rfl) ?_
                refine Gx.effg rfl rfl rfl rfl rfl (eff_callE (vs := [pv, .int .i64 ((b : Nat) : Int)]) rfl Try.fn11 rfl (R := fun v => ∃ p9 : Int, v = .int .i64 p9 ∧ (p9 < 0 ↔ ((b : Nat) : Int) ∉ (pthN (blsP (stM c (ms0 c.n) cs).bl) a a))) (fun w H => position_any ((H.at_ (k := 0) rfl).sls (by have := pthN_len (blsP (stM c (ms0 c.n) cs).bl) a a; omega)))) ?_
                rintro _ _ ⟨⟨ps36, rfl, hps36⟩, rfl⟩
                refine Gx.valg rfl rfl rfl rfl rfl (val_lss rfl rfl rfl) ?_
                refine Gx.val rfl rfl rfl (val_pickT rfl rfl rfl) ?_
                refine Gx.done ?_
                refine Gx.thenN ?_
                refine Gx.dec rfl (fun h37 => ?_) (fun h37 => ?_)
                · obtain ⟨ka, _, hka⟩ := (hds6.2 a).1 (show ds5[a]? = some true by rw [hza, h34])
                  obtain ⟨kb, _, hkb⟩ := (hds6.2 b).1 (show ds5[b]? = some true by rw [hzb, h35])
                  exact absurd ((pthN_mem bd.okc (Nat.le_refl a) (by rw [List.length_map]; omega)).2 (dec_line bd ok iv hfw (by omega) hka hkb)) (hps36.1 h37)
                · refine Gx.skip ?_
                  refine Gx.blkN ?_
                  refine Gx.thenN ?_
                  refine Gx.region ?_
                  refine Gx.val rfl rfl rfl (val_move rfl rfl) ?_
                  refine Gx.val rfl rfl rfl (val_add rfl rfl rfl (r := ((b + 1 : Nat) : Int)) (w64 (by omega) (by omega))) ?_
                  refine Gx.val rfl rfl rfl (val_assign rfl rfl) ?_
                  refine Gx.done ?_
                  refine Gx.thenN ?_
                  refine Gx.drop 0 rfl ?_
                  exact Gx.round (b + 1) (by first | omega | (dsimp only; omega)) (by first | omega | (dsimp only; omega)) ((.cons rfl (.cons rfl (.cons rfl .nil)))) rfl
              · refine Gx.skipg rfl rfl rfl rfl rfl rfl ?_
                refine Gx.skipg rfl rfl rfl rfl rfl rfl ?_
                refine Gx.skipg rfl rfl rfl rfl rfl rfl ?_
                refine Gx.skipg rfl rfl rfl rfl rfl rfl ?_
                refine Gx.skipg rfl rfl rfl rfl rfl rfl ?_
                refine Gx.skipg rfl rfl rfl rfl rfl rfl ?_
                refine Gx.skipg rfl rfl rfl rfl rfl rfl ?_
                refine Gx.val rfl rfl rfl (val_pickF rfl rfl rfl) ?_
                refine Gx.done ?_
                refine Gx.thenN ?_
                refine Gx.f rfl ?_
                refine Gx.skip ?_
                refine Gx.blkN ?_
                refine Gx.thenN ?_
                refine Gx.region ?_
                refine Gx.val rfl rfl rfl (val_move rfl rfl) ?_
                refine Gx.val rfl rfl rfl (val_add rfl rfl rfl (r := ((b + 1 : Nat) : Int)) (w64 (by omega) (by omega))) ?_
                refine Gx.val rfl rfl rfl (val_assign rfl rfl) ?_
                refine Gx.done ?_
                refine Gx.thenN ?_
                exact Gx.round (b + 1) (by first | omega | (dsimp only; omega)) (by first | omega | (dsimp only; omega)) ((.cons rfl (.cons rfl (.cons rfl .nil)))) rfl
            · refine Gx.skipg rfl rfl rfl rfl rfl rfl ?_
              refine Gx.skipg rfl rfl rfl rfl rfl rfl ?_
              refine Gx.skipg rfl rfl rfl rfl rfl rfl ?_
              refine Gx.skipg rfl rfl rfl rfl rfl rfl ?_
              refine Gx.skipg rfl rfl rfl rfl rfl rfl ?_
              refine Gx.val rfl rfl rfl (val_pickF rfl rfl rfl) ?_
              refine Gx.val rfl rfl rfl (val_move rfl rfl) ?_
              refine Gx.skipg rfl rfl rfl rfl rfl rfl ?_
              refine Gx.skipg rfl rfl rfl rfl rfl rfl ?_
              refine Gx.skipg rfl rfl rfl rfl rfl rfl ?_
              refine Gx.skipg rfl rfl rfl rfl rfl rfl ?_
              refine Gx.skipg rfl rfl rfl rfl rfl rfl ?_
              refine Gx.skipg rfl rfl rfl rfl rfl rfl ?_
              refine Gx.skipg rfl rfl rfl rfl rfl rfl ?_
              refine Gx.val rfl rfl rfl (val_pickF rfl rfl rfl) ?_
              refine Gx.done ?_
              refine Gx.thenN ?_
              refine Gx.f rfl ?_
              refine Gx.skip ?_
              refine Gx.blkN ?_
              refine Gx.thenN ?_
              refine Gx.region ?_
              refine Gx.val rfl rfl rfl (val_move rfl rfl) ?_
              refine Gx.val rfl rfl rfl (val_add rfl rfl rfl (r := ((b + 1 : Nat) : Int)) (w64 (by omega) (by omega))) ?_
              refine Gx.val rfl rfl rfl (val_assign rfl rfl) ?_
              refine Gx.done ?_
              refine Gx.thenN ?_
              exact Gx.round (b + 1) (by first | omega | (dsimp only; omega)) (by first | omega | (dsimp only; omega)) ((.cons rfl (.cons rfl (.cons rfl .nil)))) rfl
        · refine Gq.skipg rfl rfl rfl rfl rfl rfl ?_
          refine Gq.skipg rfl rfl rfl rfl rfl rfl ?_
          refine Gq.skipg rfl rfl rfl rfl rfl rfl ?_
          refine Gq.skipg rfl rfl rfl rfl rfl rfl ?_
          refine Gq.skipg rfl rfl rfl rfl rfl rfl ?_
          refine Gq.val rfl rfl rfl (val_pickF rfl rfl rfl) ?_
          refine Gq.val rfl rfl rfl (val_move rfl rfl) ?_
          refine Gq.skipg rfl rfl rfl rfl rfl rfl ?_
          refine Gq.skipg rfl rfl rfl rfl rfl rfl ?_
          refine Gq.skipg rfl rfl rfl rfl rfl rfl ?_
          refine Gq.skipg rfl rfl rfl rfl rfl rfl ?_
          refine Gq.skipg rfl rfl rfl rfl rfl rfl ?_
          refine Gq.skipg rfl rfl rfl rfl rfl rfl ?_
          refine Gq.skipg rfl rfl rfl rfl rfl rfl ?_
          refine Gq.skipg rfl rfl rfl rfl rfl rfl ?_
          refine Gq.skipg rfl rfl rfl rfl rfl rfl ?_
          refine Gq.skipg rfl rfl rfl rfl rfl rfl ?_
          refine Gq.skipg rfl rfl rfl rfl rfl rfl ?_
          refine Gq.skipg rfl rfl rfl rfl rfl rfl ?_
          refine Gq.skipg rfl rfl rfl rfl rfl rfl ?_
          refine Gq.val rfl rfl rfl (val_pickF rfl rfl rfl) ?_
          refine Gq.done ?_
          refine Gx.thenN ?_
          refine Gx.f rfl ?_
          refine Gx.skip ?_
          refine Gx.thenN ?_
          refine Gx.seq ?_
          refine Gx.region ?_
          refine Gx.val rfl rfl rfl (Val.cast (val_fieldAddr rfl Try.underlying28 rfl Try.ty26 rfl rfl) (v' := ptr b23 3) rfl) ?_
          refine Gx.val rfl rfl rfl (val_load rfl Try.ty26 rfl rfl (cell_rec (k := 0) rfl rfl)) ?_
          refine Gx.val rfl rfl rfl (val_move rfl rfl) ?_
          refine Gx.val rfl rfl rfl (val_ixa rfl Try.underlying26 Try.ty4 rfl rfl (j := a) (rfl) (reach_base hdv4 hza)) ?_
          refine Gx.val rfl rfl rfl (val_load rfl Try.ty4 rfl rfl (cell_base (i := 0) hdv4 hza rfl)) ?_
          refine Gx.val rfl rfl rfl (val_move rfl rfl) ?_
          refine Gx.casesB (t := 80) rfl (fun h38 => ?_) (fun h38 => ?_)
          · refine Gx.valg rfl rfl rfl rfl rfl (Val.cast (val_fieldAddr rfl Try.underlying28 rfl Try.ty26 rfl rfl) (v' := ptr b23 3) rfl) ?_
            refine Gx.valg rfl rfl rfl rfl rfl (val_load rfl Try.ty26 rfl rfl (cell_rec (k := 0) rfl rfl)) ?_
            refine Gx.valg rfl rfl rfl rfl rfl (val_move rfl rfl) ?_
            refine Gx.valg rfl rfl rfl rfl rfl (val_ixa rfl Try.underlying26 Try.ty4 rfl rfl (j := b) (rfl) (reach_base hdv4 hzb)) ?_
            refine Gx.valg rfl rfl rfl rfl rfl (val_load rfl Try.ty4 rfl rfl (cell_base (i := 0) hdv4 hzb rfl)) ?_
            refine Gx.val rfl rfl rfl (val_pickT rfl rfl rfl) ?_
            refine Gx.val rfl rfl rfl (val_move rfl rfl) ?_
            refine Gx.casesB (t := 87) rfl (fun h39 => ?_) (fun h39 => ?_)
            · refine Gx.valg rfl rfl rfl rfl rfl (Val.cast (val_fieldAddr rfl Try.underlying28 rfl Try.ty25 rfl rfl) (v' := ptr b23 1) rfl) ?_
              refine Gx.valg rfl rfl rfl rfl rfl (val_load rfl Try.ty25 rfl rfl (cell_rec (k := 0) rfl rfl)) ?_
              refine Gx.valg rfl rfl rfl rfl rfl (val_move rfl rfl) ?_
              refine Gx.effg rfl rfl rfl rfl rfl (eff_callN (vs := [.slice sa14 sn15 sc16, .int .i64 ((a : Nat) : Int)]) rfl Try.fn12 rfl (fun w H => path_any bd.okc hb40 a a (Nat.le_refl _) (by omega) (hbv2.below H.below) (by omega))) ?_
              rintro pv _ ⟨_, ⟨hpv, rfl⟩, rfl⟩
              refine Gx.norm (l' := [Hp.own FI 1 pv (pthN (blsP (stM c (ms0 c.n) cs).bl) a a), Hp.rec_ b23 [.slice sa11 sn12 sc13, .slice sa14 sn15 sc16, .slice sa17 sn18 sc19, .slice sa20 sn21 sc22]]) rfl ?_
              refine Gx.valg rfl rfl rfl rfl rfl (val_move rfl rfl) ?_
              refine Gx.effg rfl rfl rfl rfl rfl (eff_callE (vs := [pv, .int .i64 ((b : Nat) : Int)]) rfl Try.fn11 rfl (R := fun v => ∃ p9 : Int, v = .int .i64 p9 ∧ (p9 < 0 ↔ ((b : Nat) : Int) ∉ (pthN (blsP (stM c (ms0 c.n) cs).bl) a a))) (fun w H => position_any ((H.at_ (k := 0) rfl).sls (by have := pthN_len (blsP (stM c (ms0 c.n) cs).bl) a a; omega)))) ?_
              rintro _ _ ⟨⟨ps40, rfl, hps40⟩, rfl⟩
              refine Gx.valg rfl rfl rfl rfl rfl (val_lss rfl rfl rfl) ?_
              refine Gx.val rfl rfl rfl (val_pickT rfl rfl rfl) ?_
              refine Gx.done ?_
              refine Gx.thenN ?_
              refine Gx.dec rfl (fun h41 => ?_) (fun h41 => ?_)
              · obtain ⟨ka, _, hka⟩ := (hds6.2 a).1 (show ds5[a]? = some true by rw [hza, h38])
                obtain ⟨kb, _, hkb⟩ := (hds6.2 b).1 (show ds5[b]? = some true by rw [hzb, h39])
                exact absurd ((pthN_mem bd.okc (Nat.le_refl a) (by rw [List.length_map]; omega)).2 (dec_line bd ok iv hfw (by omega) hka hkb)) (hps40.1 h41)
              · refine Gx.skip ?_
                refine Gx.blkN ?_
                refine Gx.thenN ?_
                refine Gx.region ?_
                refine Gx.val rfl rfl rfl (val_move rfl rfl) ?_
                refine Gx.val rfl rfl rfl (val_add rfl rfl rfl (r := ((b + 1 : Nat) : Int)) (w64 (by omega) (by omega))) ?_
                refine Gx.val rfl rfl rfl (val_assign rfl rfl) ?_
                refine Gx.done ?_
                refine Gx.thenN ?_
                refine Gx.drop 0 rfl ?_
                exact Gx.round (b + 1) (by first | omega | (dsimp only; omega)) (by first | omega | (dsimp only; omega)) ((.cons rfl (.cons rfl (.cons rfl .nil)))) rfl
            · refine Gx.skipg rfl rfl rfl rfl rfl rfl ?_
              refine Gx.skipg rfl rfl rfl rfl rfl rfl ?_
              refine Gx.skipg rfl rfl rfl rfl rfl rfl ?_
              refine Gx.skipg rfl rfl rfl rfl rfl rfl ?_
              refine Gx.skipg rfl rfl rfl rfl rfl rfl ?_
              refine Gx.skipg rfl rfl rfl rfl rfl rfl ?_
              refine Gx.skipg rfl rfl rfl rfl rfl rfl ?_
              refine Gx.val rfl rfl rfl (val_pickF rfl rfl rfl) ?_
              refine Gx.done ?_
              refine Gx.thenN ?_
              refine Gx.f rfl ?_
              refine Gx.skip ?_
              refine Gx.blkN ?_
              refine Gx.thenN ?_
              refine Gx.region ?_
              refine Gx.val rfl rfl rfl (val_move rfl rfl) ?_
              refine Gx.val rfl rfl rfl (val_add rfl rfl rfl (r := ((b + 1 : Nat) : Int)) (w64 (by omega) (by omega))) ?_
              refine Gx.val rfl rfl rfl (val_assign rfl rfl) ?_
              refine Gx.done ?_
              refine Gx.thenN ?_
              exact Gx.round (b + 1) (by first | omega | (dsimp only; omega)) (by first | omega | (dsimp only; omega)) ((.cons rfl (.cons rfl (.cons rfl .nil)))) rfl
          · refine Gx.skipg rfl rfl rfl rfl rfl rfl ?_
            refine Gx.skipg rfl rfl rfl rfl rfl rfl ?_
            refine Gx.skipg rfl rfl rfl rfl rfl rfl ?_
            refine Gx.skipg rfl rfl rfl rfl rfl rfl ?_
            refine Gx.skipg rfl rfl rfl rfl rfl rfl ?_
            refine Gx.val rfl rfl rfl (val_pickF rfl rfl rfl) ?_
            refine Gx.val rfl rfl rfl (val_move rfl rfl) ?_
            refine Gx.skipg rfl rfl rfl rfl rfl rfl ?_
            refine Gx.skipg rfl rfl rfl rfl rfl rfl ?_
            refine Gx.skipg rfl rfl rfl rfl rfl rfl ?_
            refine Gx.skipg rfl rfl rfl rfl rfl rfl ?_
            refine Gx.skipg rfl rfl rfl rfl rfl rfl ?_
            refine Gx.skipg rfl rfl rfl rfl rfl rfl ?_
            refine Gx.skipg rfl rfl rfl rfl rfl rfl ?_
            refine Gx.val rfl rfl rfl (val_pickF rfl rfl rfl) ?_
            refine Gx.done ?_
            refine Gx.thenN ?_
            refine Gx.f rfl ?_
            refine Gx.skip ?_
            refine Gx.blkN ?_
            refine Gx.thenN ?_
            refine Gx.region ?_
            refine Gx.val rfl rfl rfl (val_move rfl rfl) ?_
            refine Gx.val rfl rfl rfl (val_add rfl rfl rfl (r := ((b + 1 : Nat) : Int)) (w64 (by omega) (by omega))) ?_
            refine Gx.val rfl rfl rfl (val_assign rfl rfl) ?_
            refine Gx.done ?_
            refine Gx.thenN ?_
            exact Gx.round (b + 1) (by first | omega | (dsimp only; omega)) (by first | omega | (dsimp only; omega)) ((.cons rfl (.cons rfl (.cons rfl .nil)))) rfl
      · refine Gx.exit ?_
        refine Gx.thenE ?_
        refine Gx.thenE ?_
        refine Gx.blkE ?_
        refine Gx.blkN ?_
        refine Gx.thenN ?_
        refine Gx.region ?_
        refine Gx.val rfl rfl rfl (val_move rfl rfl) ?_
        refine Gx.val rfl rfl rfl (val_add rfl rfl rfl (r := ((a + 1 : Nat) : Int)) (w64 (by omega) (by omega))) ?_
        refine Gx.val rfl rfl rfl (val_assign rfl rfl) ?_
        refine Gx.done ?_
        refine Gx.thenN ?_
        exact Gx.round (a + 1) (by first | omega | (dsimp only; omega)) (by first | omega | (dsimp only; omega)) ((.cons rfl (.cons rfl .nil))) rfl
    · refine Gx.exit ?_
      refine Gx.thenE ?_
      refine Gx.thenE ?_
      refine Gx.blkE ?_
      refine Gx.thenN ?_
      refine Gx.seq ?_
      refine Gx.region ?_
      refine Gx.val rfl rfl rfl (val_assign rfl rfl) ?_
      refine Gx.done ?_
      refine Gx.thenN ?_
      refine Gx.ret ?_
      refine Gx.ret1B hW9 Try.results3 rfl ?_
      rfl

theorem safe_any {W : World} {k f z : Int} {sv : Value} {cs : List Sy} (hz0 : 0 ≤ z) (hz1 : z < 4294967296) (hs : SlS FM 5 W sv cs) :
    Calls Try.prog 3 #[.int .i64 k, .int .i64 f, .int .u32 z, sv] W fun e w' => e = .returned (.bool true) ∧ Below W.heap.size W w' := by
  obtain ⟨L, rfl⟩ : ∃ L : Nat, z = (L : Int) := ⟨z.toNat, by omega⟩
  have hL : L < 4294967296 := by omega
  by_cases h : Valid k f L cs
  · obtain ⟨h1, h2, h3, h4, h5, h6⟩ := h
    obtain ⟨n, rfl⟩ : ∃ n : Nat, k = (n : Int) := ⟨k.toNat, by omega⟩
    obtain ⟨f', rfl⟩ : ∃ f' : Nat, f = (f' : Int) := ⟨f.toNat, by omega⟩
    rw [Int.toNat_natCast] at h5 h6
    exact safe_yes (c := ⟨n, n - f', L⟩) hs (by dsimp only; omega) (by dsimp only; omega) h3 (by dsimp only; omega) (by dsimp only; omega) h6 hL
  · exact safe_bad hs h
theorem locks_bad {W : World} {k f : Int} {L : Nat} {sv : Value} {cs : List Sy} (hs : SlS FM 5 W sv cs) (hbad : ¬ Valid k f L cs) :
    Calls Try.prog 6 #[.int .i64 k, .int .i64 f, .int .u32 ((L : Nat) : Int), sv] W fun e w' => e = .returned (.bool true) ∧ Below W.heap.size W w' := by
  refine calls_pure (Gx.enter (l := []) Try.func6 rfl Try.ntmps6 rfl (Sat.start W) ?_)
  refine Gx.know (m' := [(0, .int .i64 k), (1, .int .i64 f), (2, .int .u32 ((L : Nat) : Int)), (3, sv)]) (.cons rfl (.cons rfl (.cons rfl (.cons rfl .nil)))) ?_
  refine Gx.seq ?_
  refine Gx.region ?_
  refine Gx.val rfl rfl rfl (val_assign rfl rfl) ?_
  refine Gx.done ?_
  refine Gx.thenN ?_
  refine Gx.seq ?_
  refine Gx.region ?_
  refine Gx.val rfl rfl rfl (val_move rfl rfl) ?_
  refine Gx.val rfl rfl rfl (val_move rfl rfl) ?_
  refine Gx.val rfl rfl rfl (val_move rfl rfl) ?_
  refine Gx.val rfl rfl rfl (val_move rfl rfl) ?_
  refine Gx.eff rfl rfl rfl (eff_callE (vs := [.int .i64 k, .int .i64 f, .int .u32 ((L : Nat) : Int), sv]) rfl Try.fn8 rfl (R := fun v => ∃ z : Int, z ≠ 0 ∧ v = .tuple #[.agg #[.slice none 0 0, .slice none 0 0, .slice none 0 0, .slice none 0 0], .int .i64 z]) (fun w H => play_bad (hs.below H.below) hbad)) ?_
  rintro _ _ ⟨⟨zz1, hzz2, rfl⟩, rfl⟩
  refine Gx.val rfl rfl rfl (val_move rfl rfl) ?_
  refine Gx.val rfl rfl rfl (val_extract rfl rfl rfl) ?_
  refine Gx.val rfl rfl rfl (val_extract rfl rfl rfl) ?_
  refine Gx.eff rfl rfl rfl (eff_alloc rfl Try.ty28 (vs := [.slice none 0 0, .slice none 0 0, .slice none 0 0, .slice none 0 0]) rfl) ?_
  rintro _ _ ⟨b3, rfl, rfl⟩
  refine Gx.eff0 rfl rfl (eff_store rfl Try.ty28 rfl rfl (us := [.slice none 0 0, .slice none 0 0, .slice none 0 0, .slice none 0 0]) rfl rfl rfl (k := 0) rfl (rfl) (vs' := [.slice none 0 0, .slice none 0 0, .slice none 0 0, .slice none 0 0]) (rfl) (l' := [Hp.rec_ b3 [.slice none 0 0, .slice none 0 0, .slice none 0 0, .slice none 0 0]]) rfl) ?_
  rintro _ _ rfl
  refine Gx.val rfl rfl rfl (val_assign rfl rfl) ?_
  refine Gx.done ?_
  refine Gx.thenN ?_
  refine Gx.seq ?_
  refine Gx.seq ?_
  refine Gx.region ?_
  refine Gx.val rfl rfl rfl (val_move rfl rfl) ?_
  refine Gx.val rfl rfl rfl (val_neq rfl rfl rfl) ?_
  refine Gx.done ?_
  refine Gx.thenN ?_
  refine Gx.decT rfl (by omega) ?_
  refine Gx.seq ?_
  refine Gx.region ?_
  refine Gx.val rfl rfl rfl (val_assign rfl rfl) ?_
  refine Gx.done ?_
  refine Gx.thenN ?_
  refine Gx.ret ?_
  refine Gx.thenR ?_
  refine Gx.ret1 Try.results6 rfl ?_
  first | rfl | exact congrArg Value.bool (decide_eq_true rfl)

theorem locks_yes {W : World} {c : MC} {f : Nat} {sv : Value} {cs : List Sy} (hs : SlS FM 5 W sv cs) (h1n : 1 ≤ c.n) (h7n : c.n ≤ 7) (hcl : cs.length ≤ 120) (hf : f ≤ (c.n - 1) / 3) (hfn : c.need + f = c.n) (hLn : c.L >>> c.n = 0) (hL : c.L < 4294967296) :
    Calls Try.prog 6 #[.int .i64 ((c.n : Nat) : Int), .int .i64 ((f : Nat) : Int), .int .u32 ((c.L : Nat) : Int), sv] W fun e w' => e = .returned (.bool true) ∧ Below W.heap.size W w' := by
  have ok : OkM c := ⟨h7n, by omega, hL⟩
  have bd := BdM.at_ ok cs
  have iv := InvM.run ok cs (BdM.start c) (InvM.start c)
  have hb40 := bd.b40
  have hpos := bd.pos
  refine calls_pure (Gx.enter (l := []) Try.func6 rfl Try.ntmps6 rfl (Sat.start W) ?_)
  refine Gx.know (m' := [(0, .int .i64 ((c.n : Nat) : Int)), (1, .int .i64 ((f : Nat) : Int)), (2, .int .u32 ((c.L : Nat) : Int)), (3, sv)]) (.cons rfl (.cons rfl (.cons rfl (.cons rfl .nil)))) ?_
  refine Gx.seq ?_
  refine Gx.region ?_
  refine Gx.val rfl rfl rfl (val_assign rfl rfl) ?_
  refine Gx.done ?_
  refine Gx.thenN ?_
  refine Gx.seq ?_
  refine Gx.region ?_
  refine Gx.val rfl rfl rfl (val_move rfl rfl) ?_
  refine Gx.val rfl rfl rfl (val_move rfl rfl) ?_
  refine Gx.val rfl rfl rfl (val_move rfl rfl) ?_
  refine Gx.val rfl rfl rfl (val_move rfl rfl) ?_
  refine Gx.callB rfl rfl rfl (vs := [.int .i64 ((c.n : Nat) : Int), .int .i64 ((f : Nat) : Int), .int .u32 ((c.L : Nat) : Int), sv]) rfl Try.fn8 rfl (R := fun v w' => ∃ (cv bv wv dv : Value) (ds : List Bool), v = .tuple #[.agg #[cv, bv, wv, dv], .int .i64 0] ∧ SlS FZ 1 w' cv (codesM c (ms0 c.n) cs) ∧ SlS FK 2 w' bv (stM c (ms0 c.n) cs).bl ∧ SlS FB 1 w' wv (certL c (stM c (ms0 c.n) cs)) ∧ SlS FB 1 w' dv ds ∧ Chn.IsDec (blsP (stM c (ms0 c.n) cs).bl) (certL c (stM c (ms0 c.n) cs)) (stM c (ms0 c.n) cs).bl.length ds) (fun w H => play_ok (hs.below H.below) h1n h7n (by omega) hf hfn hLn hL) ?_
  rintro _ W7 ⟨cv1, bv2, wv3, dv4, ds5, rfl, hcv1, hbv2, hwv3, hdv4, hds6⟩ H8
  have hW9 := H8.below
  have hs10 := hs.below H8.below
  have hclcv1 : (codesM c (ms0 c.n) cs).length = (cs).length := codesM_len ..
  have hwlcv1 : (certL c (stM c (ms0 c.n) cs)).length = (stM c (ms0 c.n) cs).bl.length := by unfold certL; rw [List.length_map, List.length_range]
  have hdlcv1 : ds5.length = (stM c (ms0 c.n) cs).bl.length := by rw [hds6.1, List.length_map]
  refine Gx.val rfl rfl rfl (val_move rfl rfl) ?_
  obtain ⟨sa11, sn12, sc13, rfl⟩ := hcv1.isS
  obtain ⟨sa14, sn15, sc16, rfl⟩ := hbv2.isS
  obtain ⟨sa17, sn18, sc19, rfl⟩ := hwv3.isS
  obtain ⟨sa20, sn21, sc22, rfl⟩ := hdv4.isS
  refine Gx.val rfl rfl rfl (val_extract rfl rfl rfl) ?_
  refine Gx.val rfl rfl rfl (val_extract rfl rfl rfl) ?_
  refine Gx.eff rfl rfl rfl (eff_alloc rfl Try.ty28 (vs := [.slice none 0 0, .slice none 0 0, .slice none 0 0, .slice none 0 0]) rfl) ?_
  rintro _ _ ⟨b23, rfl, rfl⟩
  refine Gx.eff0 rfl rfl (eff_store rfl Try.ty28 rfl rfl (us := [.slice sa11 sn12 sc13, .slice sa14 sn15 sc16, .slice sa17 sn18 sc19, .slice sa20 sn21 sc22]) rfl rfl rfl (k := 0) rfl (rfl) (vs' := [.slice sa11 sn12 sc13, .slice sa14 sn15 sc16, .slice sa17 sn18 sc19, .slice sa20 sn21 sc22]) (rfl) (l' := [Hp.rec_ b23 [.slice sa11 sn12 sc13, .slice sa14 sn15 sc16, .slice sa17 sn18 sc19, .slice sa20 sn21 sc22]]) rfl) ?_
  rintro _ _ rfl
  refine Gx.val rfl rfl rfl (val_assign rfl rfl) ?_
  refine Gx.done ?_
  refine Gx.thenN ?_
  refine Gx.seq ?_
  refine Gx.seq ?_
  refine Gx.region ?_
  refine Gx.val rfl rfl rfl (val_move rfl rfl) ?_
  refine Gx.val rfl rfl rfl (Val.cast (val_neq rfl rfl rfl) (v' := .bool false) rfl) ?_
  refine Gx.done ?_
  refine Gx.thenN ?_
  refine Gx.f rfl ?_
  refine Gx.skip ?_
  refine Gx.thenN ?_
  refine Gx.seq ?_
  refine Gx.seq ?_
  refine Gx.region ?_
  refine Gx.val rfl rfl rfl (Val.cast (val_loadA rfl Try.ty28 rfl rfl rfl (cells_rec (k := 0) rfl)) (v' := .agg #[.slice sa11 sn12 sc13, .slice sa14 sn15 sc16, .slice sa17 sn18 sc19, .slice sa20 sn21 sc22]) rfl) ?_
  refine Gx.val rfl rfl rfl (val_move rfl rfl) ?_
  refine Gx.val rfl rfl rfl (val_call (vs := [.agg #[.slice sa11 sn12 sc13, .slice sa14 sn15 sc16, .slice sa17 sn18 sc19, .slice sa20 sn21 sc22], sv]) rfl Try.fn9 rfl (fun w H => met_yes (hcv1.below H.below) (hbv2.below H.below) (hwv3.below H.below) (hdv4.below H.below) (hs10.below H.below) (by omega) bd.okc (by omega) (by omega))) ?_
  refine Gx.val rfl rfl rfl (Val.cast (val_not rfl rfl) (v' := .bool false) rfl) ?_
  refine Gx.done ?_
  refine Gx.thenN ?_
  refine Gx.f rfl ?_
  refine Gx.skip ?_
  refine Gx.thenN ?_
  refine Gx.seq ?_
  refine Gx.seq ?_
  refine Gx.region ?_
  refine Gx.val rfl rfl rfl (val_move rfl rfl) ?_
  refine Gx.val rfl rfl rfl (val_move rfl rfl) ?_
  refine Gx.val rfl rfl rfl (val_move rfl rfl) ?_
  refine Gx.val rfl rfl rfl (val_call (vs := [.int .u32 ((c.L : Nat) : Int), .int .i64 ((c.n : Nat) : Int), .int .i64 ((f : Nat) : Int)]) rfl Try.fn10 rfl (fun w H => few_c hL (by omega) (by omega))) ?_
  refine Gx.val rfl rfl rfl (val_not rfl rfl) ?_
  refine Gx.done ?_
  refine Gx.thenN ?_
  refine Gx.bool rfl (fun h24 => ?_) (fun h24 => ?_)
  · refine Gx.seq ?_
    refine Gx.region ?_
    refine Gx.val rfl rfl rfl (val_assign rfl rfl) ?_
    refine Gx.done ?_
    refine Gx.thenN ?_
    refine Gx.ret ?_
    refine Gx.thenR ?_
    refine Gx.ret1B hW9 Try.results6 rfl ?_
    rfl
  · refine Gx.skip ?_
    refine Gx.thenN ?_
    refine Gx.seq ?_
    refine Gx.seq ?_
    have hfw : Few c f := few_of h1n hf hfn (by simpa using h24)
    refine Gx.region ?_
    refine Gx.val rfl rfl rfl (val_assign rfl rfl) ?_
    refine Gx.done ?_
    refine Gx.thenN ?_
    refine Gx.block ?_
    refine Gx.loop (ι := Nat) (fun ξ => (1 ≤ ξ) ∧ (ξ ≤ (stM c (ms0 c.n) cs).bl.length)) (fun ξ => [(9, ptr b23 0), (11, .int .i64 ((ξ : Nat) : Int))]) (fun ξ => [Hp.rec_ b23 [.slice sa11 sn12 sc13, .slice sa14 sn15 sc16, .slice sa17 sn18 sc19, .slice sa20 sn21 sc22]]) (fun ξ => (stM c (ms0 c.n) cs).bl.length - ξ) 1 ⟨by first | omega | (dsimp only; omega), by first | omega | (dsimp only; omega)⟩ ((.cons rfl (.cons rfl .nil))) rfl ?_
    rintro k ⟨hk, hk2⟩
    refine Gx.know (m' := [(9, ptr b23 0), (11, .int .i64 ((k : Nat) : Int))]) (.cons rfl (.cons rfl .nil)) (Gx.norm (l' := [Hp.rec_ b23 [.slice sa11 sn12 sc13, .slice sa14 sn15 sc16, .slice sa17 sn18 sc19, .slice sa20 sn21 sc22]]) rfl ?_)
    refine Gx.seq ?_
    refine Gx.seq ?_
    refine Gx.region ?_
    refine Gx.val rfl rfl rfl (val_move rfl rfl) ?_
    refine Gx.val rfl rfl rfl (Val.cast (val_fieldAddr rfl Try.underlying28 rfl Try.ty25 rfl rfl) (v' := ptr b23 1) rfl) ?_
    refine Gx.val rfl rfl rfl (val_load rfl Try.ty25 rfl rfl (cell_rec (k := 0) rfl rfl)) ?_
    refine Gx.val rfl rfl rfl (val_len rfl Try.underlying25 rfl (len_base hbv2)) ?_
    refine Gx.val rfl rfl rfl (val_lss rfl rfl rfl) ?_
    refine Gx.done ?_
    refine Gx.thenN ?_
    refine Gx.dec rfl (fun h25 => ?_) (fun h25 => ?_)
    · refine Gx.skip ?_
      refine Gx.thenN ?_
      refine Gx.seq ?_
      refine Gx.block ?_
      refine Gx.seq ?_
      obtain ⟨x, hx⟩ := get_of_lt (xs := (stM c (ms0 c.n) cs).bl) (k := k) (by omega)
      obtain ⟨p, y, hpe, hpb, hy, hyr⟩ := bd.par k x (by omega) hx
      have hx9 := bd.rnd _ _ hx
      have hy9 := bd.rnd _ _ hy
      have eP : parM (stM c (ms0 c.n) cs) k = p := by rw [parM_of hx, hpe]; rfl
      obtain ⟨yk, hyk⟩ := get_of_lt (xs := certL c (stM c (ms0 c.n) cs)) (k := k) (by omega)
      obtain ⟨yp, hyp⟩ := get_of_lt (xs := certL c (stM c (ms0 c.n) cs)) (k := p) (by omega)
      refine Gx.region ?_
      refine Gx.val rfl rfl rfl (Val.cast (val_fieldAddr rfl Try.underlying28 rfl Try.ty25 rfl rfl) (v' := ptr b23 1) rfl) ?_
      refine Gx.val rfl rfl rfl (val_load rfl Try.ty25 rfl rfl (cell_rec (k := 0) rfl rfl)) ?_
      refine Gx.val rfl rfl rfl (val_move rfl rfl) ?_
      refine Gx.val rfl rfl rfl (val_ixa rfl Try.underlying25 Try.ty35 rfl rfl (j := k) (rfl) (reach_base hbv2 hx)) ?_
      refine Gx.val rfl rfl rfl (Val.cast (val_fieldAddr rfl Try.underlying35 rfl Try.ty3 rfl rfl) (v' := ptr (sB (.slice sa14 sn15 sc16)) (sO (.slice sa14 sn15 sc16) + k * 2)) rfl) ?_
      refine Gx.val rfl rfl rfl (val_load rfl Try.ty3 rfl rfl (cell_base (i := 0) hbv2 hx rfl)) ?_
      refine Gx.val rfl rfl rfl (val_assign rfl rfl) ?_
      refine Gx.done ?_
      refine Gx.thenN ?_
      refine Gx.seq ?_
      refine Gx.seq ?_
      refine Gx.slot (t := 12) (v := .int .i64 ((p : Nat) : Int)) (by rw [← hpe]; rfl) ?_
      refine Gx.regionQ Try.mixed (by kernel_rfl) ?_
      refine Gq.val rfl rfl rfl (Val.cast (val_fieldAddr rfl Try.underlying28 rfl Try.ty26 rfl rfl) (v' := ptr b23 2) rfl) ?_
      refine Gq.val rfl rfl rfl (val_load rfl Try.ty26 rfl rfl (cell_rec (k := 0) rfl rfl)) ?_
      refine Gq.val rfl rfl rfl (val_move rfl rfl) ?_
      refine Gq.val rfl rfl rfl (val_ixa rfl Try.underlying26 Try.ty4 rfl rfl (j := k) (rfl) (reach_base hwv3 hyk)) ?_
      refine Gq.val rfl rfl rfl (val_load rfl Try.ty4 rfl rfl (cell_base (i := 0) hwv3 hyk rfl)) ?_
      refine Gq.val rfl rfl rfl (val_not rfl rfl) ?_
      refine Gq.val rfl rfl rfl (val_move rfl rfl) ?_
      refine Gq.casesB (t := 52) rfl (fun h26 => ?_) (fun h26 => ?_)
      · refine Gq.skipg rfl rfl rfl rfl rfl rfl ?_
        refine Gq.skipg rfl rfl rfl rfl rfl rfl ?_
        refine Gq.skipg rfl rfl rfl rfl rfl rfl ?_
        refine Gq.skipg rfl rfl rfl rfl rfl rfl ?_
        refine Gq.skipg rfl rfl rfl rfl rfl rfl ?_
        refine Gq.skipg rfl rfl rfl rfl rfl rfl ?_
        refine Gq.val rfl rfl rfl (val_pickT rfl rfl rfl) ?_
        refine Gq.val rfl rfl rfl (val_move rfl rfl) ?_
        refine Gq.skipg rfl rfl rfl rfl rfl rfl ?_
        refine Gq.skipg rfl rfl rfl rfl rfl rfl ?_
        refine Gq.skipg rfl rfl rfl rfl rfl rfl ?_
        refine Gq.skipg rfl rfl rfl rfl rfl rfl ?_
        refine Gq.skipg rfl rfl rfl rfl rfl rfl ?_
        refine Gq.skipg rfl rfl rfl rfl rfl rfl ?_
        refine Gq.skipg rfl rfl rfl rfl rfl rfl ?_
        refine Gq.skipg rfl rfl rfl rfl rfl rfl ?_
        refine Gq.skipg rfl rfl rfl rfl rfl rfl ?_
        refine Gq.skipg rfl rfl rfl rfl rfl rfl ?_
        refine Gq.skipg rfl rfl rfl rfl rfl rfl ?_
        refine Gq.skipg rfl rfl rfl rfl rfl rfl ?_
        refine Gq.skipg rfl rfl rfl rfl rfl rfl ?_
        refine Gq.skipg rfl rfl rfl rfl rfl rfl ?_
        refine Gq.val rfl rfl rfl (val_pickT rfl rfl rfl) ?_
        refine Gq.done ?_
        refine Gx.thenN ?_
        refine Gx.t rfl ?_
        refine Gx.exit ?_
        refine Gx.thenE ?_
        refine Gx.blkE ?_
        refine Gx.thenN ?_
        refine Gx.region ?_
        refine Gx.val rfl rfl rfl (val_move rfl rfl) ?_
        refine Gx.val rfl rfl rfl (val_add rfl rfl rfl (r := ((k + 1 : Nat) : Int)) (w64 (by omega) (by omega))) ?_
        refine Gx.val rfl rfl rfl (val_assign rfl rfl) ?_
        refine Gx.done ?_
        refine Gx.thenN ?_
        exact Gx.round (k + 1) ⟨by first | omega | (dsimp only; omega), by first | omega | (dsimp only; omega)⟩ (by first | omega | (dsimp only; omega)) ((.cons rfl (.cons rfl .nil))) rfl
      · refine Gq.valg rfl rfl rfl rfl rfl (Val.cast (val_fieldAddr rfl Try.underlying28 rfl Try.ty26 rfl rfl) (v' := ptr b23 2) rfl) ?_
        refine Gq.valg rfl rfl rfl rfl rfl (val_load rfl Try.ty26 rfl rfl (cell_rec (k := 0) rfl rfl)) ?_
        refine Gq.valg rfl rfl rfl rfl rfl (val_move rfl rfl) ?_
        refine Gq.valg rfl rfl rfl rfl rfl (val_ixa rfl Try.underlying26 Try.ty4 rfl rfl (j := p) (rfl) (reach_base hwv3 hyp)) ?_
        refine Gq.valg rfl rfl rfl rfl rfl (val_load rfl Try.ty4 rfl rfl (cell_base (i := 0) hwv3 hyp rfl)) ?_
        refine Gq.valg rfl rfl rfl rfl rfl (val_not rfl rfl) ?_
        refine Gq.val rfl rfl rfl (val_pickF rfl rfl rfl) ?_
        refine Gq.val rfl rfl rfl (val_move rfl rfl) ?_
        refine Gq.casesB (t := 60) rfl (fun h27 => ?_) (fun h27 => ?_)
        · refine Gq.skipg rfl rfl rfl rfl rfl rfl ?_
          refine Gq.skipg rfl rfl rfl rfl rfl rfl ?_
          refine Gq.skipg rfl rfl rfl rfl rfl rfl ?_
          refine Gq.skipg rfl rfl rfl rfl rfl rfl ?_
          refine Gq.skipg rfl rfl rfl rfl rfl rfl ?_
          refine Gq.skipg rfl rfl rfl rfl rfl rfl ?_
          refine Gq.skipg rfl rfl rfl rfl rfl rfl ?_
          refine Gq.skipg rfl rfl rfl rfl rfl rfl ?_
          refine Gq.skipg rfl rfl rfl rfl rfl rfl ?_
          refine Gq.skipg rfl rfl rfl rfl rfl rfl ?_
          refine Gq.skipg rfl rfl rfl rfl rfl rfl ?_
          refine Gq.skipg rfl rfl rfl rfl rfl rfl ?_
          refine Gq.skipg rfl rfl rfl rfl rfl rfl ?_
          refine Gq.skipg rfl rfl rfl rfl rfl rfl ?_
          refine Gq.val rfl rfl rfl (val_pickT rfl rfl rfl) ?_
          refine Gq.done ?_
          refine Gx.thenN ?_
          refine Gx.t rfl ?_
          refine Gx.exit ?_
          refine Gx.thenE ?_
          refine Gx.blkE ?_
          refine Gx.thenN ?_
          refine Gx.region ?_
          refine Gx.val rfl rfl rfl (val_move rfl rfl) ?_
          refine Gx.val rfl rfl rfl (val_add rfl rfl rfl (r := ((k + 1 : Nat) : Int)) (w64 (by omega) (by omega))) ?_
          refine Gx.val rfl rfl rfl (val_assign rfl rfl) ?_
          refine Gx.done ?_
          refine Gx.thenN ?_
          exact Gx.round (k + 1) ⟨by first | omega | (dsimp only; omega), by first | omega | (dsimp only; omega)⟩ (by first | omega | (dsimp only; omega)) ((.cons rfl (.cons rfl .nil))) rfl
        · refine Gq.valg rfl rfl rfl rfl rfl (Val.cast (val_fieldAddr rfl Try.underlying28 rfl Try.ty25 rfl rfl) (v' := ptr b23 1) rfl) ?_
          refine Gq.valg rfl rfl rfl rfl rfl (val_load rfl Try.ty25 rfl rfl (cell_rec (k := 0) rfl rfl)) ?_
          refine Gq.valg rfl rfl rfl rfl rfl (val_move rfl rfl) ?_
          refine Gq.valg rfl rfl rfl rfl rfl (val_ixa rfl Try.underlying25 Try.ty35 rfl rfl (j := k) (rfl) (reach_base hbv2 hx)) ?_
          refine Gq.valg rfl rfl rfl rfl rfl (Val.cast (val_fieldAddr rfl Try.underlying35 rfl Try.ty3 rfl rfl) (v' := ptr (sB (.slice sa14 sn15 sc16)) (sO (.slice sa14 sn15 sc16) + k * 2 + 1)) rfl) ?_
          refine Gq.valg rfl rfl rfl rfl rfl (val_load rfl Try.ty3 rfl rfl (cell_base (i := 1) hbv2 hx rfl)) ?_
          refine Gq.valg rfl rfl rfl rfl rfl (Val.cast (val_fieldAddr rfl Try.underlying28 rfl Try.ty25 rfl rfl) (v' := ptr b23 1) rfl) ?_
          refine Gq.valg rfl rfl rfl rfl rfl (val_load rfl Try.ty25 rfl rfl (cell_rec (k := 0) rfl rfl)) ?_
          refine Gq.valg rfl rfl rfl rfl rfl (val_move rfl rfl) ?_
          refine Gq.valg rfl rfl rfl rfl rfl (val_ixa rfl Try.underlying25 Try.ty35 rfl rfl (j := p) (rfl) (reach_base hbv2 hy)) ?_
          refine Gq.valg rfl rfl rfl rfl rfl (Val.cast (val_fieldAddr rfl Try.underlying35 rfl Try.ty3 rfl rfl) (v' := ptr (sB (.slice sa14 sn15 sc16)) (sO (.slice sa14 sn15 sc16) + p * 2 + 1)) rfl) ?_
          refine Gq.valg rfl rfl rfl rfl rfl (val_load rfl Try.ty3 rfl rfl (cell_base (i := 1) hbv2 hy rfl)) ?_
          refine Gq.valg rfl rfl rfl rfl rfl (val_add rfl rfl rfl (r := ((y.rnd + 1 : Nat) : Int)) (w64 (by omega) (by omega))) ?_
          refine Gq.valg rfl rfl rfl rfl rfl (val_neq rfl rfl rfl) ?_
          refine Gq.val rfl rfl rfl (val_pickF rfl rfl rfl) ?_
          refine Gq.done ?_
          refine Gx.thenN ?_
          refine Gx.dec rfl (fun h28 => ?_) (fun h28 => ?_)
          · refine Gx.exit ?_
            refine Gx.thenE ?_
            refine Gx.blkE ?_
            refine Gx.thenN ?_
            refine Gx.region ?_
            refine Gx.val rfl rfl rfl (val_move rfl rfl) ?_
            refine Gx.val rfl rfl rfl (val_add rfl rfl rfl (r := ((k + 1 : Nat) : Int)) (w64 (by omega) (by omega))) ?_
            refine Gx.val rfl rfl rfl (val_assign rfl rfl) ?_
            refine Gx.done ?_
            refine Gx.thenN ?_
            exact Gx.round (k + 1) ⟨by first | omega | (dsimp only; omega), by first | omega | (dsimp only; omega)⟩ (by first | omega | (dsimp only; omega)) ((.cons rfl (.cons rfl .nil))) rfl
          · refine Gx.skip ?_
            refine Gx.thenN ?_
            refine Gx.seq ?_
            refine Gx.region ?_
            refine Gx.val rfl rfl rfl (val_assign rfl rfl) ?_
            refine Gx.done ?_
            refine Gx.thenN ?_
            refine Gx.block ?_
            have hck : certM c (stM c (ms0 c.n) cs) k = true := cert_at hyk (by simpa using h26)
            have hcp : certM c (stM c (ms0 c.n) cs) (parM (stM c (ms0 c.n) cs) k) = true := by rw [eP]; exact cert_at hyp (by simpa using h27)
            have hrr : rndM (stM c (ms0 c.n) cs) k = rndM (stM c (ms0 c.n) cs) (parM (stM c (ms0 c.n) cs) k) + 1 := by rw [eP, rndM_of hx, rndM_of hy]; omega
            refine Gx.loop (ι := Nat) (fun ξ => (ξ ≤ (stM c (ms0 c.n) cs).bl.length)) (fun ξ => [(9, ptr b23 0), (11, .int .i64 ((k : Nat) : Int)), (12, .int .i64 ((p : Nat) : Int)), (13, .int .i64 ((ξ : Nat) : Int))]) (fun ξ => [Hp.rec_ b23 [.slice sa11 sn12 sc13, .slice sa14 sn15 sc16, .slice sa17 sn18 sc19, .slice sa20 sn21 sc22]]) (fun ξ => (stM c (ms0 c.n) cs).bl.length - ξ) 0 (by first | omega | (dsimp only; omega)) ((.cons rfl (.cons rfl (.cons rfl (.cons rfl .nil))))) rfl ?_
            rintro q hq
            refine Gx.know (m' := [(9, ptr b23 0), (11, .int .i64 ((k : Nat) : Int)), (12, .int .i64 ((p : Nat) : Int)), (13, .int .i64 ((q : Nat) : Int))]) (.cons rfl (.cons rfl (.cons rfl (.cons rfl .nil)))) (Gx.norm (l' := [Hp.rec_ b23 [.slice sa11 sn12 sc13, .slice sa14 sn15 sc16, .slice sa17 sn18 sc19, .slice sa20 sn21 sc22]]) rfl ?_)
            refine Gx.seq ?_
            refine Gx.seq ?_
            refine Gx.region ?_
            refine Gx.val rfl rfl rfl (val_move rfl rfl) ?_
            refine Gx.val rfl rfl rfl (Val.cast (val_fieldAddr rfl Try.underlying28 rfl Try.ty25 rfl rfl) (v' := ptr b23 1) rfl) ?_
            refine Gx.val rfl rfl rfl (val_load rfl Try.ty25 rfl rfl (cell_rec (k := 0) rfl rfl)) ?_
            refine Gx.val rfl rfl rfl (val_len rfl Try.underlying25 rfl (len_base hbv2)) ?_
            refine Gx.val rfl rfl rfl (val_lss rfl rfl rfl) ?_
            refine Gx.done ?_
            refine Gx.thenN ?_
            refine Gx.dec rfl (fun h29 => ?_) (fun h29 => ?_)
            · refine Gx.skip ?_
              refine Gx.thenN ?_
              refine Gx.seq ?_
              refine Gx.block ?_
              refine Gx.seq ?_
              obtain ⟨xq, hxq⟩ := get_of_lt (xs := (stM c (ms0 c.n) cs).bl) (k := q) (by omega)
              obtain ⟨yq, hyq⟩ := get_of_lt (xs := certL c (stM c (ms0 c.n) cs)) (k := q) (by omega)
              refine Gx.regionO (fun j => j == 24) 26 [0, 1, 2, 3, 4, 5, 6, 7, 8, 9, 10, 11, 12, 13, 14, 15, 16, 17, 18, 19, 20, 21, 22, 23, 25, 24] (fun us => match us with | [] => [Hp.rec_ b23 [.slice sa11 sn12 sc13, .slice sa14 sn15 sc16, .slice sa17 sn18 sc19, .slice sa20 sn21 sc22]] | u1 :: _ => [Hp.own FI 1 u1 (pthN (blsP (stM c (ms0 c.n) cs).bl) q q), Hp.rec_ b23 [.slice sa11 sn12 sc13, .slice sa14 sn15 sc16, .slice sa17 sn18 sc19, .slice sa20 sn21 sc22]]) Try.mixed (by kernel_rfl) rfl ?_
              refine Gw.val rfl rfl rfl rfl rfl (fun us => Val.cast (val_fieldAddr rfl Try.underlying28 rfl Try.ty26 rfl rfl) (v' := ptr b23 2) rfl) ?_
              refine Gw.val rfl rfl rfl rfl rfl (fun us => match us with | [] => val_load rfl Try.ty26 rfl rfl (cell_rec (k := 0) rfl rfl) | u1 :: _ => val_load rfl Try.ty26 rfl rfl (cell_rec (k := 1) rfl rfl)) ?_
              refine Gw.val rfl rfl rfl rfl rfl (fun us => val_move rfl rfl) ?_
              refine Gw.val rfl rfl rfl rfl rfl (fun us => val_ixa rfl Try.underlying26 Try.ty4 rfl rfl (j := q) (rfl) (reach_base hwv3 hyq)) ?_
              refine Gw.val rfl rfl rfl rfl rfl (fun us => val_load rfl Try.ty4 rfl rfl (cell_base (i := 0) hwv3 hyq rfl)) ?_
              refine Gw.val rfl rfl rfl rfl rfl (fun us => val_move rfl rfl) ?_
              refine Gw.casesB (t := 88) rfl (fun h30 => ?_) (fun h30 => ?_)
              · refine Gw.valg rfl rfl rfl rfl rfl rfl rfl (fun us => Val.cast (val_fieldAddr rfl Try.underlying28 rfl Try.ty25 rfl rfl) (v' := ptr b23 1) rfl) ?_
                refine Gw.valg rfl rfl rfl rfl rfl rfl rfl (fun us => match us with | [] => val_load rfl Try.ty25 rfl rfl (cell_rec (k := 0) rfl rfl) | u1 :: _ => val_load rfl Try.ty25 rfl rfl (cell_rec (k := 1) rfl rfl)) ?_
                refine Gw.valg rfl rfl rfl rfl rfl rfl rfl (fun us => val_move rfl rfl) ?_
                refine Gw.valg rfl rfl rfl rfl rfl rfl rfl (fun us => val_ixa rfl Try.underlying25 Try.ty35 rfl rfl (j := q) (rfl) (reach_base hbv2 hxq)) ?_
                refine Gw.valg rfl rfl rfl rfl rfl rfl rfl (fun us => Val.cast (val_fieldAddr rfl Try.underlying35 rfl Try.ty3 rfl rfl) (v' := ptr (sB (.slice sa14 sn15 sc16)) (sO (.slice sa14 sn15 sc16) + q * 2 + 1)) rfl) ?_
                refine Gw.valg rfl rfl rfl rfl rfl rfl rfl (fun us => val_load rfl Try.ty3 rfl rfl (cell_base (i := 1) hbv2 hxq rfl)) ?_
                refine Gw.valg rfl rfl rfl rfl rfl rfl rfl (fun us => Val.cast (val_fieldAddr rfl Try.underlying28 rfl Try.ty25 rfl rfl) (v' := ptr b23 1) rfl) ?_
                refine Gw.valg rfl rfl rfl rfl rfl rfl rfl (fun us => match us with | [] => val_load rfl Try.ty25 rfl rfl (cell_rec (k := 0) rfl rfl) | u1 :: _ => val_load rfl Try.ty25 rfl rfl (cell_rec (k := 1) rfl rfl)) ?_
                refine Gw.valg rfl rfl rfl rfl rfl rfl rfl (fun us => val_move rfl rfl) ?_
                refine Gw.valg rfl rfl rfl rfl rfl rfl rfl (fun us => val_ixa rfl Try.underlying25 Try.ty35 rfl rfl (j := p) (rfl) (reach_base hbv2 hy)) ?_
                refine Gw.valg rfl rfl rfl rfl rfl rfl rfl (fun us => Val.cast (val_fieldAddr rfl Try.underlying35 rfl Try.ty3 rfl rfl) (v' := ptr (sB (.slice sa14 sn15 sc16)) (sO (.slice sa14 sn15 sc16) + p * 2 + 1)) rfl) ?_
                refine Gw.valg rfl rfl rfl rfl rfl rfl rfl (fun us => val_load rfl Try.ty3 rfl rfl (cell_base (i := 1) hbv2 hy rfl)) ?_
                refine Gw.valg rfl rfl rfl rfl rfl rfl rfl (fun us => val_gtr rfl rfl rfl) ?_
                refine Gw.val rfl rfl rfl rfl rfl (fun us => val_pickT rfl rfl rfl) ?_
                refine Gw.val rfl rfl rfl rfl rfl (fun us => val_move rfl rfl) ?_
                refine Gw.cases (t := 103) rfl (fun h31 => ?_) (fun h31 => ?_)
                · refine Gw.valg rfl rfl rfl rfl rfl rfl rfl (fun us => Val.cast (val_fieldAddr rfl Try.underlying28 rfl Try.ty25 rfl rfl) (v' := ptr b23 1) rfl) ?_
                  refine Gw.valg0 rfl rfl rfl rfl rfl (by kernel_rfl) rfl rfl (val_load rfl Try.ty25 rfl rfl (cell_rec (k := 0) rfl rfl)) ?_
                  refine Gw.valg rfl rfl rfl rfl rfl rfl rfl (fun us => val_move rfl rfl) ?_
                  refine Gw.valg rfl rfl rfl rfl rfl rfl rfl (fun us => val_move rfl rfl) ?_
                  refine Gw.chgg rfl rfl rfl rfl rfl rfl rfl IsS (Eff.mono (eff_callN (vs := [.slice sa14 sn15 sc16, .int .i64 ((q : Nat) : Int)]) rfl Try.fn12 rfl (fun w H => path_any bd.okc hb40 q q (Nat.le_refl _) (by omega) (hbv2.below H.below) (by omega))) (by rintro _ _ ⟨_, ⟨hpv, rfl⟩, rfl⟩; exact ⟨hpv, rfl⟩)) ?_
                  rintro pv hpv
                  refine Gw.done ?_
                  refine Gx.norm (l' := [Hp.own FI 1 pv (pthN (blsP (stM c (ms0 c.n) cs).bl) q q), Hp.rec_ b23 [.slice sa11 sn12 sc13, .slice sa14 sn15 sc16, .slice sa17 sn18 sc19, .slice sa20 sn21 sc22]]) rfl ?_
                  refine Gx.effg rfl rfl rfl rfl rfl (eff_callE (vs := [pv, .int .i64 ((p : Nat) : Int)]) rfl Try.fn11 rfl (R := fun v => ∃ p9 : Int, v = .int .i64 p9 ∧ (p9 < 0 ↔ ((p : Nat) : Int) ∉ (pthN (blsP (stM c (ms0 c.n) cs).bl) q q))) (fun w H => position_any ((H.at_ (k := 0) rfl).sls (by have := pthN_len (blsP (stM c (ms0 c.n) cs).bl) q q; omega)))) ?_
                  rintro _ _ ⟨⟨ps32, rfl, hps32⟩, rfl⟩
                  refine Gx.valg rfl rfl rfl rfl rfl (val_lss rfl rfl rfl) ?_
                  refine Gx.val rfl rfl rfl (val_pickT rfl rfl rfl) ?_
                  refine Gx.done ?_
                  refine Gx.thenN ?_
                  refine Gx.dec rfl (fun h33 => ?_) (fun h33 => ?_)
                  · have hlk := lock bd ok iv hfw (k := k) (by omega) (by omega) hck hcp hrr q q (Nat.le_refl _) (by omega) (cert_at hyq h30) (by rw [eP, rndM_of hy, rndM_of hxq]; omega)
                    rw [eP] at hlk
                    exact absurd ((pthN_mem bd.okc (Nat.le_refl q) (by rw [List.length_map]; omega)).2 hlk) (hps32.1 h33)
                  · refine Gx.skip ?_
                    refine Gx.blkN ?_
                    refine Gx.thenN ?_
                    refine Gx.region ?_
                    refine Gx.val rfl rfl rfl (val_move rfl rfl) ?_
                    refine Gx.val rfl rfl rfl (val_add rfl rfl rfl (r := ((q + 1 : Nat) : Int)) (w64 (by omega) (by omega))) ?_
                    refine Gx.val rfl rfl rfl (val_assign rfl rfl) ?_
                    refine Gx.done ?_
                    refine Gx.thenN ?_
                    refine Gx.drop 0 rfl ?_
                    exact Gx.round (q + 1) (by first | omega | (dsimp only; omega)) (by first | omega | (dsimp only; omega)) ((.cons rfl (.cons rfl (.cons rfl (.cons rfl .nil))))) rfl
                · refine Gw.skipg rfl rfl rfl rfl rfl rfl rfl ?_
                  refine Gw.skipg rfl rfl rfl rfl rfl rfl rfl ?_
                  refine Gw.skipg rfl rfl rfl rfl rfl rfl rfl ?_
                  refine Gw.skipg rfl rfl rfl rfl rfl rfl rfl ?_
                  refine Gw.skipg rfl rfl rfl rfl rfl rfl rfl ?_
                  refine Gw.done ?_
                  refine Gx.norm (l' := [Hp.rec_ b23 [.slice sa11 sn12 sc13, .slice sa14 sn15 sc16, .slice sa17 sn18 sc19, .slice sa20 sn21 sc22]]) rfl ?_
                  refine Gx.skipg rfl rfl rfl rfl rfl rfl ?_
                  refine Gx.skipg rfl rfl rfl rfl rfl rfl ?_
                  refine Gx.val rfl rfl rfl (val_pickF rfl rfl rfl) ?_
                  refine Gx.done ?_
                  refine Gx.thenN ?_
                  refine Gx.f rfl ?_
                  refine Gx.skip ?_
                  refine Gx.blkN ?_
                  refine Gx.thenN ?_
                  refine Gx.region ?_
                  refine Gx.val rfl rfl rfl (val_move rfl rfl) ?_
                  refine Gx.val rfl rfl rfl (val_add rfl rfl rfl (r := ((q + 1 : Nat) : Int)) (w64 (by omega) (by omega))) ?_
                  refine Gx.val rfl rfl rfl (val_assign rfl rfl) ?_
                  refine Gx.done ?_
                  refine Gx.thenN ?_
                  exact Gx.round (q + 1) (by first | omega | (dsimp only; omega)) (by first | omega | (dsimp only; omega)) ((.cons rfl (.cons rfl (.cons rfl (.cons rfl .nil))))) rfl
              · refine Gw.skipg rfl rfl rfl rfl rfl rfl rfl ?_
                refine Gw.skipg rfl rfl rfl rfl rfl rfl rfl ?_
                refine Gw.skipg rfl rfl rfl rfl rfl rfl rfl ?_
                refine Gw.skipg rfl rfl rfl rfl rfl rfl rfl ?_
                refine Gw.skipg rfl rfl rfl rfl rfl rfl rfl ?_
                refine Gw.skipg rfl rfl rfl rfl rfl rfl rfl ?_
                refine Gw.skipg rfl rfl rfl rfl rfl rfl rfl ?_
                refine Gw.skipg rfl rfl rfl rfl rfl rfl rfl ?_
                refine Gw.skipg rfl rfl rfl rfl rfl rfl rfl ?_
                refine Gw.skipg rfl rfl rfl rfl rfl rfl rfl ?_
                refine Gw.skipg rfl rfl rfl rfl rfl rfl rfl ?_
                refine Gw.skipg rfl rfl rfl rfl rfl rfl rfl ?_
                refine Gw.skipg rfl rfl rfl rfl rfl rfl rfl ?_
                refine Gw.val rfl rfl rfl rfl rfl (fun us => val_pickF rfl rfl rfl) ?_
                refine Gw.val rfl rfl rfl rfl rfl (fun us => val_move rfl rfl) ?_
                refine Gw.skipg rfl rfl rfl rfl rfl rfl rfl ?_
                refine Gw.skipg rfl rfl rfl rfl rfl rfl rfl ?_
                refine Gw.skipg rfl rfl rfl rfl rfl rfl rfl ?_
                refine Gw.skipg rfl rfl rfl rfl rfl rfl rfl ?_
                refine Gw.skipg rfl rfl rfl rfl rfl rfl rfl ?_
                refine Gw.done ?_
                refine Gx.norm (l' := [Hp.rec_ b23 [.slice sa11 sn12 sc13, .slice sa14 sn15 sc16, .slice sa17 sn18 sc19, .slice sa20 sn21 sc22]]) rfl ?_
                refine Gx.skipg rfl rfl rfl rfl rfl rfl ?_
                refine Gx.skipg rfl rfl rfl rfl rfl rfl ?_
                refine Gx.val rfl rfl rfl (val_pickF rfl rfl rfl) ?_
                refine Gx.done ?_
                refine Gx.thenN ?_
                refine Gx.f rfl ?_
                refine Gx.skip ?_
                refine Gx.blkN ?_
                refine Gx.thenN ?_
                refine Gx.region ?_
                refine Gx.val rfl rfl rfl (val_move rfl rfl) ?_
                refine Gx.val rfl rfl rfl (val_add rfl rfl rfl (r := ((q + 1 : Nat) : Int)) (w64 (by omega) (by omega))) ?_
                refine Gx.val rfl rfl rfl (val_assign rfl rfl) ?_
                refine Gx.done ?_
                refine Gx.thenN ?_
                exact Gx.round (q + 1) (by first | omega | (dsimp only; omega)) (by first | omega | (dsimp only; omega)) ((.cons rfl (.cons rfl (.cons rfl (.cons rfl .nil))))) rfl
            · refine Gx.exit ?_
              refine Gx.thenE ?_
              refine Gx.thenE ?_
              refine Gx.blkE ?_
              refine Gx.blkN ?_
              refine Gx.thenN ?_
              refine Gx.region ?_
              refine Gx.val rfl rfl rfl (val_move rfl rfl) ?_
              refine Gx.val rfl rfl rfl (val_add rfl rfl rfl (r := ((k + 1 : Nat) : Int)) (w64 (by omega) (by omega))) ?_
              refine Gx.val rfl rfl rfl (val_assign rfl rfl) ?_
              refine Gx.done ?_
              refine Gx.thenN ?_
              exact Gx.round (k + 1) ⟨by first | omega | (dsimp only; omega), by first | omega | (dsimp only; omega)⟩ (by first | omega | (dsimp only; omega)) ((.cons rfl (.cons rfl .nil))) rfl
    · refine Gx.exit ?_
      refine Gx.thenE ?_
      refine Gx.thenE ?_
      refine Gx.blkE ?_
      refine Gx.thenN ?_
      refine Gx.seq ?_
      refine Gx.region ?_
      refine Gx.val rfl rfl rfl (val_assign rfl rfl) ?_
      refine Gx.done ?_
      refine Gx.thenN ?_
      refine Gx.ret ?_
      refine Gx.ret1B hW9 Try.results6 rfl ?_
      rfl

theorem locks_any {W : World} {k f z : Int} {sv : Value} {cs : List Sy} (hz0 : 0 ≤ z) (hz1 : z < 4294967296) (hs : SlS FM 5 W sv cs) :
    Calls Try.prog 6 #[.int .i64 k, .int .i64 f, .int .u32 z, sv] W fun e w' => e = .returned (.bool true) ∧ Below W.heap.size W w' := by
  obtain ⟨L, rfl⟩ : ∃ L : Nat, z = (L : Int) := ⟨z.toNat, by omega⟩
  have hL : L < 4294967296 := by omega
  by_cases h : Valid k f L cs
  · obtain ⟨h1, h2, h3, h4, h5, h6⟩ := h
    obtain ⟨n, rfl⟩ : ∃ n : Nat, k = (n : Int) := ⟨k.toNat, by omega⟩
    obtain ⟨f', rfl⟩ : ∃ f' : Nat, f = (f' : Int) := ⟨f.toNat, by omega⟩
    rw [Int.toNat_natCast] at h5 h6
    exact locks_yes (c := ⟨n, n - f', L⟩) hs (by dsimp only; omega) (by dsimp only; omega) h3 (by dsimp only; omega) (by dsimp only; omega) h6 hL
  · exact locks_bad hs h
end Go.Proofs.Ytghnahckopokhaa
