/- Two neighbours of two copies that merge nothing, in the other order. The walk. No condition. -/
import Derived.Test.YtfpkfbffpkjgbaaM3
import Derived.Test.YtfpkfbffpkjgbaaB1
namespace Go.Proofs.Ytfpkfbffpkjgbaa
open Go.RowKit
set_option linter.unusedVariables false
set_option linter.unusedSimpArgs false
set_option maxRecDepth 100000

theorem swap_no {W : World} {z : Int} {k : Nat} {sv : Value} {xs : List Sy} (hs : SlS FY 5 W sv xs) (hbad : z < 1 ∨ 6 < z ∨ 120 < (xs.length : Int)) :
    Calls Try.prog 7 #[.int .i64 z, sv, .int .u8 ((k : Nat) : Int)] W fun e w' => e = .returned (.bool true) ∧ Below W.heap.size W w' := by
  have hm9 := sls_bd hs
  refine calls_pure (Gx.enter (l := []) Try.func7 rfl Try.ntmps7 rfl (Sat.start W) ?_)
  refine Gx.know (m' := [(0, .int .i64 z), (1, sv), (2, .int .u8 ((k : Nat) : Int))]) (.cons rfl (.cons rfl (.cons rfl .nil))) ?_
  refine Gx.seq ?_
  refine Gx.region ?_
  refine Gx.val rfl rfl rfl (val_assign rfl rfl) ?_
  refine Gx.done ?_
  refine Gx.thenN ?_
  refine Gx.seq ?_
  refine Gx.region ?_
  refine Gx.val rfl rfl rfl (val_move rfl rfl) ?_
  refine Gx.val rfl rfl rfl (val_move rfl rfl) ?_
  refine Gx.val rfl rfl rfl (val_call (vs := [.int .i64 z, sv]) rfl Try.fn12 rfl (fun w H => play_no (hs.below H.below) hbad)) ?_
  refine Gx.val rfl rfl rfl (val_move rfl rfl) ?_
  refine Gx.val rfl rfl rfl (val_extract rfl rfl rfl) ?_
  refine Gx.val rfl rfl rfl (val_extract rfl rfl rfl) ?_
  refine Gx.val rfl rfl rfl (val_extract rfl rfl rfl) ?_
  refine Gx.val rfl rfl rfl (val_assign rfl rfl) ?_
  refine Gx.val rfl rfl rfl (val_assign rfl rfl) ?_
  refine Gx.val rfl rfl rfl (val_assign rfl rfl) ?_
  refine Gx.done ?_
  refine Gx.thenN ?_
  refine Gx.seq ?_
  refine Gx.seq ?_
  refine Gx.region ?_
  refine Gx.val rfl rfl rfl (val_move rfl rfl) ?_
  refine Gx.val rfl rfl rfl (Val.cast (val_neq rfl rfl rfl) (v' := .bool true) rfl) ?_
  refine Gx.done ?_
  refine Gx.thenN ?_
  refine Gx.t rfl ?_
  refine Gx.seq ?_
  refine Gx.region ?_
  refine Gx.val rfl rfl rfl (val_move rfl rfl) ?_
  refine Gx.val rfl rfl rfl (val_len rfl Try.underlying35 rfl len_lit) ?_
  refine Gx.val rfl rfl rfl (Val.cast (val_eql rfl rfl rfl) (v' := .bool true) rfl) ?_
  refine Gx.val rfl rfl rfl (val_assign rfl rfl) ?_
  refine Gx.done ?_
  refine Gx.thenN ?_
  refine Gx.ret ?_
  refine Gx.thenR ?_
  refine Gx.ret1 Try.results7 rfl ?_
  rfl

theorem swap_yes {W : World} {n k : Nat} {sv : Value} {xs : List Sy} (hs : SlS FY 5 W sv xs) (hk : k ≤ 255) (h1n : 1 ≤ n) (h6n : n ≤ 6) (hl1 : xs.length ≤ 120) :
    Calls Try.prog 7 #[.int .i64 ((n : Nat) : Int), sv, .int .u8 ((k : Nat) : Int)] W fun e w' => e = .returned (.bool true) ∧ Below W.heap.size W w' := by
  have hm9 := sls_bd hs
  obtain ⟨G, hI⟩ := InvM.run xs (InvM.start h1n) (Int.le_refl 0)
  refine calls_pure (Gx.enter (l := []) Try.func7 rfl Try.ntmps7 rfl (Sat.start W) ?_)
  refine Gx.know (m' := [(0, .int .i64 ((n : Nat) : Int)), (1, sv), (2, .int .u8 ((k : Nat) : Int))]) (.cons rfl (.cons rfl (.cons rfl .nil))) ?_
  refine Gx.seq ?_
  refine Gx.region ?_
  refine Gx.val rfl rfl rfl (val_assign rfl rfl) ?_
  refine Gx.done ?_
  refine Gx.thenN ?_
  refine Gx.seq ?_
  refine Gx.region ?_
  refine Gx.val rfl rfl rfl (val_move rfl rfl) ?_
  refine Gx.val rfl rfl rfl (val_move rfl rfl) ?_
  refine Gx.callB rfl rfl rfl (vs := [.int .i64 ((n : Nat) : Int), sv]) rfl Try.fn12 rfl (R := (fun v w' => ∃ (av cv : Value) (ms : List Cm), v = .tuple #[av, cv, .int .i64 0] ∧ ms.map Cm.c = stM n (ms0 n) xs ∧ SlS FC 6 w' av ms ∧ SlS FE 1 w' cv (codesM n (ms0 n) xs) ∧ ∀ m ∈ ms, RowsS w' m)) (fun w H => play_ok (n := n) (by omega) (by omega) (hs.below H.below) (by omega)) ?_
  rintro _ W1 ⟨av1, cv1, ms1, rfl, hms1, hsa1, hsc1, hr1⟩ H2
  have hW3 := H2.below
  have hs4 := hs.below H2.below
  refine Gx.val rfl rfl rfl (val_move rfl rfl) ?_
  refine Gx.val rfl rfl rfl (val_extract rfl rfl rfl) ?_
  refine Gx.val rfl rfl rfl (val_extract rfl rfl rfl) ?_
  refine Gx.val rfl rfl rfl (val_extract rfl rfl rfl) ?_
  refine Gx.val rfl rfl rfl (val_assign rfl rfl) ?_
  refine Gx.val rfl rfl rfl (val_assign rfl rfl) ?_
  refine Gx.val rfl rfl rfl (val_assign rfl rfl) ?_
  refine Gx.done ?_
  refine Gx.thenN ?_
  refine Gx.seq ?_
  refine Gx.seq ?_
  refine Gx.region ?_
  refine Gx.val rfl rfl rfl (val_move rfl rfl) ?_
  refine Gx.val rfl rfl rfl (Val.cast (val_neq rfl rfl rfl) (v' := .bool false) rfl) ?_
  refine Gx.done ?_
  refine Gx.thenN ?_
  refine Gx.f rfl ?_
  refine Gx.skip ?_
  refine Gx.thenN ?_
  refine Gx.seq ?_
  refine Gx.seq ?_
  have hml1 : ms1.length = n := by rw [← hI.bd.len, ← hms1, List.length_map]
  have hcl1 : (codesM n (ms0 n) xs).length = xs.length := codesM_len _ _
  refine Gx.region ?_
  refine Gx.val rfl rfl rfl (val_move rfl rfl) ?_
  refine Gx.val rfl rfl rfl (val_len rfl Try.underlying35 rfl (len_base hsa1)) ?_
  refine Gx.val rfl rfl rfl (val_move rfl rfl) ?_
  refine Gx.val rfl rfl rfl (val_neq rfl rfl rfl) ?_
  refine Gx.val rfl rfl rfl (val_move rfl rfl) ?_
  refine Gx.slot (t := 31) (v := .bool false) (look_decF rfl (by omega)) ?_
  refine Gx.valg rfl rfl rfl rfl rfl (val_move rfl rfl) ?_
  refine Gx.valg rfl rfl rfl rfl rfl (val_len rfl Try.underlying36 rfl (len_base hsc1)) ?_
  refine Gx.valg rfl rfl rfl rfl rfl (val_move rfl rfl) ?_
  refine Gx.valg rfl rfl rfl rfl rfl (val_len rfl Try.underlying34 rfl (len_base hs4)) ?_
  refine Gx.valg rfl rfl rfl rfl rfl (val_neq rfl rfl rfl) ?_
  refine Gx.val rfl rfl rfl (val_pickF rfl rfl rfl) ?_
  refine Gx.done ?_
  refine Gx.thenN ?_
  refine Gx.decF rfl (by omega) ?_
  refine Gx.skip ?_
  refine Gx.thenN ?_
  refine Gx.seq ?_
  refine Gx.seq ?_
  refine Gx.region ?_
  refine Gx.val rfl rfl rfl (val_move rfl rfl) ?_
  refine Gx.val rfl rfl rfl (val_len rfl Try.underlying34 rfl (len_base hs4)) ?_
  refine Gx.val rfl rfl rfl (val_lss rfl rfl rfl) ?_
  refine Gx.done ?_
  refine Gx.thenN ?_
  refine Gx.dec rfl (fun h5 => ?_) (fun h5 => ?_)
  · refine Gx.seq ?_
    refine Gx.region ?_
    refine Gx.val rfl rfl rfl (val_assign rfl rfl) ?_
    refine Gx.done ?_
    refine Gx.thenN ?_
    refine Gx.ret ?_
    refine Gx.thenR ?_
    refine Gx.ret1B hW3 Try.results7 rfl ?_
    rfl
  refine Gx.skip ?_
  refine Gx.thenN ?_
  refine Gx.seq ?_
  refine Gx.region ?_
  refine Gx.val rfl rfl rfl (val_move rfl rfl) ?_
  refine Gx.val rfl rfl rfl (val_conv rfl Try.underlying5 Try.underlying3 rfl (r := ((k : Nat) : Int)) (w64 rfl (by omega))) ?_
  refine Gx.val rfl rfl rfl (val_move rfl rfl) ?_
  refine Gx.val rfl rfl rfl (val_len rfl Try.underlying34 rfl (len_base hs4)) ?_
  refine Gx.val rfl rfl rfl (val_sub rfl rfl rfl (r := ((xs.length - 1 : Nat) : Int)) (w64 (by omega) (by omega))) ?_
  refine Gx.val rfl rfl rfl (val_rem rfl rfl rfl (r := ((k % (xs.length - 1) : Nat) : Int)) (by omega) (rfl)) ?_
  refine Gx.val rfl rfl rfl (val_assign rfl rfl) ?_
  refine Gx.done ?_
  refine Gx.thenN ?_
  refine Gx.seq ?_
  refine Gx.seq ?_
  obtain ⟨i, hi⟩ : ∃ i, i = k % (xs.length - 1) := ⟨_, rfl⟩
  refine Gx.slot (t := 10) (v := .int .i64 ((i : Nat) : Int)) (by rw [hi]; rfl) ?_
  have hil : i + 1 < xs.length := by have := Nat.mod_lt k (show 0 < xs.length - 1 by omega); omega
  obtain ⟨x, hx⟩ := get_of_lt (xs := xs) (k := i) (by omega)
  obtain ⟨y, hy⟩ := get_of_lt (xs := xs) (k := i + 1) (by omega)
  refine Gx.regionQ Try.mixed (by kernel_rfl) ?_
  refine Gq.val rfl rfl rfl (val_move rfl rfl) ?_
  refine Gq.val rfl rfl rfl (val_move rfl rfl) ?_
  refine Gq.val rfl rfl rfl (val_ixa rfl Try.underlying34 Try.ty42 rfl rfl (j := i) (rfl) (reach_base hs4 hx)) ?_
  refine Gq.val rfl rfl rfl (Val.cast (val_fieldAddr rfl Try.underlying42 rfl Try.ty3 rfl rfl) (v' := ptr (sB sv) (sO sv + i * 5 + 1)) rfl) ?_
  refine Gq.val rfl rfl rfl (val_load rfl Try.ty3 rfl rfl (cell_base (i := 1) hs4 hx rfl)) ?_
  refine Gq.val rfl rfl rfl (val_move rfl rfl) ?_
  refine Gq.val rfl rfl rfl (val_move rfl rfl) ?_
  refine Gq.val rfl rfl rfl (val_add rfl rfl rfl (r := ((i + 1 : Nat) : Int)) (w64 (by omega) (by omega))) ?_
  refine Gq.val rfl rfl rfl (val_ixa rfl Try.underlying34 Try.ty42 rfl rfl (j := i + 1) (rfl) (reach_base hs4 hy)) ?_
  refine Gq.val rfl rfl rfl (Val.cast (val_fieldAddr rfl Try.underlying42 rfl Try.ty3 rfl rfl) (v' := ptr (sB sv) (sO sv + (i + 1) * 5 + 1)) rfl) ?_
  refine Gq.val rfl rfl rfl (val_load rfl Try.ty3 rfl rfl (cell_base (i := 1) (sz := 5) (j := i + 1) hs4 hy rfl)) ?_
  refine Gq.val rfl rfl rfl (val_eql rfl rfl rfl) ?_
  refine Gq.val rfl rfl rfl (val_move rfl rfl) ?_
  refine Gq.cases (t := 59) rfl (fun h6 => ?_) (fun h6 => ?_)
  · refine Gq.skipg rfl rfl rfl rfl rfl rfl ?_
    refine Gq.skipg rfl rfl rfl rfl rfl rfl ?_
    refine Gq.skipg rfl rfl rfl rfl rfl rfl ?_
    refine Gq.skipg rfl rfl rfl rfl rfl rfl ?_
    refine Gq.skipg rfl rfl rfl rfl rfl rfl ?_
    refine Gq.skipg rfl rfl rfl rfl rfl rfl ?_
    refine Gq.val rfl rfl rfl (val_pickT rfl rfl rfl) ?_
    refine Gq.val rfl rfl rfl (val_move rfl rfl) ?_
    refine Gq.skipg rfl rfl rfl rfl rfl rfl ?_
    refine Gq.skipg rfl rfl rfl rfl rfl rfl ?_
    refine Gq.skipg rfl rfl rfl rfl rfl rfl ?_
    refine Gq.skipg rfl rfl rfl rfl rfl rfl ?_
    refine Gq.skipg rfl rfl rfl rfl rfl rfl ?_
    refine Gq.skipg rfl rfl rfl rfl rfl rfl ?_
    refine Gq.skipg rfl rfl rfl rfl rfl rfl ?_
    refine Gq.val rfl rfl rfl (val_pickT rfl rfl rfl) ?_
    refine Gq.done ?_
    refine Gx.thenN ?_
    refine Gx.t rfl ?_
    refine Gx.seq ?_
    refine Gx.region ?_
    refine Gx.val rfl rfl rfl (val_assign rfl rfl) ?_
    refine Gx.done ?_
    refine Gx.thenN ?_
    refine Gx.ret ?_
    refine Gx.thenR ?_
    refine Gx.ret1B hW3 Try.results7 rfl ?_
    rfl
  refine Gq.valg rfl rfl rfl rfl rfl (val_move rfl rfl) ?_
  refine Gq.valg rfl rfl rfl rfl rfl (val_move rfl rfl) ?_
  refine Gq.valg rfl rfl rfl rfl rfl (val_ixa rfl Try.underlying34 Try.ty42 rfl rfl (j := i) (rfl) (reach_base hs4 hx)) ?_
  refine Gq.valg rfl rfl rfl rfl rfl (Val.cast (val_fieldAddr rfl Try.underlying42 rfl Try.ty3 rfl rfl) (v' := ptr (sB sv) (sO sv + i * 5)) rfl) ?_
  refine Gq.valg rfl rfl rfl rfl rfl (val_load rfl Try.ty3 rfl rfl (cell_base (i := 0) hs4 hx rfl)) ?_
  refine Gq.valg rfl rfl rfl rfl rfl (val_eql rfl rfl rfl) ?_
  refine Gq.val rfl rfl rfl (val_pickF rfl rfl rfl) ?_
  refine Gq.val rfl rfl rfl (val_move rfl rfl) ?_
  refine Gq.cases (t := 67) rfl (fun h7 => ?_) (fun h7 => ?_)
  · refine Gq.skipg rfl rfl rfl rfl rfl rfl ?_
    refine Gq.skipg rfl rfl rfl rfl rfl rfl ?_
    refine Gq.skipg rfl rfl rfl rfl rfl rfl ?_
    refine Gq.skipg rfl rfl rfl rfl rfl rfl ?_
    refine Gq.skipg rfl rfl rfl rfl rfl rfl ?_
    refine Gq.skipg rfl rfl rfl rfl rfl rfl ?_
    refine Gq.skipg rfl rfl rfl rfl rfl rfl ?_
    refine Gq.val rfl rfl rfl (val_pickT rfl rfl rfl) ?_
    refine Gq.done ?_
    refine Gx.thenN ?_
    refine Gx.t rfl ?_
    refine Gx.seq ?_
    refine Gx.region ?_
    refine Gx.val rfl rfl rfl (val_assign rfl rfl) ?_
    refine Gx.done ?_
    refine Gx.thenN ?_
    refine Gx.ret ?_
    refine Gx.thenR ?_
    refine Gx.ret1B hW3 Try.results7 rfl ?_
    rfl
  refine Gq.valg rfl rfl rfl rfl rfl (val_move rfl rfl) ?_
  refine Gq.valg rfl rfl rfl rfl rfl (val_move rfl rfl) ?_
  refine Gq.valg rfl rfl rfl rfl rfl (val_add rfl rfl rfl (r := ((i + 1 : Nat) : Int)) (w64 (by omega) (by omega))) ?_
  refine Gq.valg rfl rfl rfl rfl rfl (val_ixa rfl Try.underlying34 Try.ty42 rfl rfl (j := i + 1) (rfl) (reach_base hs4 hy)) ?_
  refine Gq.valg rfl rfl rfl rfl rfl (Val.cast (val_fieldAddr rfl Try.underlying42 rfl Try.ty3 rfl rfl) (v' := ptr (sB sv) (sO sv + (i + 1) * 5)) rfl) ?_
  refine Gq.valg rfl rfl rfl rfl rfl (val_load rfl Try.ty3 rfl rfl (cell_base (i := 0) (sz := 5) (j := i + 1) hs4 hy rfl)) ?_
  refine Gq.valg rfl rfl rfl rfl rfl (val_eql rfl rfl rfl) ?_
  refine Gq.val rfl rfl rfl (val_pickF rfl rfl rfl) ?_
  refine Gq.done ?_
  refine Gx.thenN ?_
  refine Gx.dec rfl (fun h8 => ?_) (fun h8 => ?_)
  · refine Gx.seq ?_
    refine Gx.region ?_
    refine Gx.val rfl rfl rfl (val_assign rfl rfl) ?_
    refine Gx.done ?_
    refine Gx.thenN ?_
    refine Gx.ret ?_
    refine Gx.thenR ?_
    refine Gx.ret1B hW3 Try.results7 rfl ?_
    rfl
  refine Gx.skip ?_
  refine Gx.thenN ?_
  refine Gx.seq ?_
  refine Gx.region ?_
  refine Gx.eff rfl rfl rfl (eff_buildNil (f := FY) (sz := 5) (e := 42) rfl Try.underlying34 (fun w => by first | (go_simp; done) | (go_simp; rfl))) ?_
  rintro v9 _ ⟨hiv9, rfl⟩
  refine Gx.val rfl rfl rfl (val_move rfl rfl) ?_
  refine Gx.eff rfl rfl rfl (eff_pushAll (k := 0) (ys := xs) rfl Try.eY FY_len FY_one rfl rfl (fun w H => hs4.below H.below) rfl (by simp; omega) (by simp; omega)) ?_
  rintro v10 _ ⟨hiv10, rfl⟩
  refine Gx.norm (l' := [Hp.own FY 5 v10 xs]) rfl ?_
  refine Gx.val rfl rfl rfl (val_assign rfl rfl) ?_
  refine Gx.done ?_
  refine Gx.thenN ?_
  refine Gx.seq ?_
  refine Gx.region ?_
  refine Gx.val rfl rfl rfl (val_move rfl rfl) ?_
  refine Gx.val rfl rfl rfl (val_move rfl rfl) ?_
  refine Gx.val rfl rfl rfl (val_move rfl rfl) ?_
  refine Gx.val rfl rfl rfl (val_move rfl rfl) ?_
  refine Gx.val rfl rfl rfl (val_add rfl rfl rfl (r := ((i + 1 : Nat) : Int)) (w64 (by omega) (by omega))) ?_
  refine Gx.val rfl rfl rfl (val_ixa rfl Try.underlying34 Try.ty42 rfl rfl (j := i + 1) (rfl) (reach_base hs4 hy)) ?_
  refine Gx.val rfl rfl rfl (Val.cast (val_loadA rfl Try.ty42 rfl rfl rfl (cells_base (sz := 5) (j := i + 1) hs4 hy)) (v' := .agg #[.int .i64 y.kind, .int .i64 y.who, .int .i64 y.frm, .int .i64 y.item, .int .i64 y.n]) rfl) ?_
  refine Gx.val rfl rfl rfl (val_ixa rfl Try.underlying34 Try.ty42 rfl rfl (j := i) (rfl) (reach_own (k := 0) rfl hx)) ?_
  refine Gx.eff0 rfl rfl (eff_storeElA y rfl Try.ty42 rfl rfl rfl FY_one (k := 0) rfl FY_len hx (l' := [Hp.own FY 5 v10 (xs.set i y)]) rfl) ?_
  rintro _ _ rfl
  refine Gx.done ?_
  refine Gx.thenN ?_
  refine Gx.seq ?_
  refine Gx.region ?_
  refine Gx.val rfl rfl rfl (val_move rfl rfl) ?_
  refine Gx.val rfl rfl rfl (val_move rfl rfl) ?_
  refine Gx.val rfl rfl rfl (val_add rfl rfl rfl (r := ((i + 1 : Nat) : Int)) (w64 (by omega) (by omega))) ?_
  refine Gx.val rfl rfl rfl (val_move rfl rfl) ?_
  refine Gx.val rfl rfl rfl (val_move rfl rfl) ?_
  refine Gx.val rfl rfl rfl (val_ixa rfl Try.underlying34 Try.ty42 rfl rfl (j := i) (rfl) (reach_base hs4 hx)) ?_
  refine Gx.val rfl rfl rfl (Val.cast (val_loadA rfl Try.ty42 rfl rfl rfl (cells_base hs4 hx)) (v' := .agg #[.int .i64 x.kind, .int .i64 x.who, .int .i64 x.frm, .int .i64 x.item, .int .i64 x.n]) rfl) ?_
  obtain ⟨x11, hx11⟩ := get_of_lt (xs := xs.set i y) (k := i + 1) (by first | omega | (simp; omega))
  refine Gx.val rfl rfl rfl (val_ixa rfl Try.underlying34 Try.ty42 rfl rfl (j := i + 1) (rfl) (reach_own (k := 0) rfl hx11)) ?_
  refine Gx.eff0 rfl rfl (eff_storeElA x rfl Try.ty42 rfl rfl rfl FY_one (k := 0) rfl FY_len hx11 (l' := [Hp.own FY 5 v10 ((xs.set i y).set (i + 1) x)]) rfl) ?_
  rintro _ _ rfl
  refine Gx.done ?_
  refine Gx.thenN ?_
  refine Gx.seq ?_
  have hswl : (swp xs i x y).length = xs.length := swp_len
  refine Gx.norm (l' := [Hp.own FY 5 v10 (swp xs i x y)]) rfl ?_
  refine Gx.region ?_
  refine Gx.val rfl rfl rfl (val_move rfl rfl) ?_
  refine Gx.val rfl rfl rfl (val_move rfl rfl) ?_
  refine Gx.callB rfl rfl rfl (vs := [.int .i64 ((n : Nat) : Int), v10]) rfl Try.fn12 rfl (R := (fun v w' => ∃ (av cv : Value) (ms : List Cm), v = .tuple #[av, cv, .int .i64 0] ∧ ms.map Cm.c = stM n (ms0 n) (swp xs i x y) ∧ SlS FC 6 w' av ms ∧ SlS FE 1 w' cv (codesM n (ms0 n) (swp xs i x y)) ∧ ∀ m ∈ ms, RowsS w' m)) (fun w H => play_ok (n := n) (by omega) (by omega) ((H.at_ (k := 0) rfl).sls (by rw [swp_len]; omega)) (by rw [swp_len]; omega)) ?_
  rintro _ W12 ⟨av2, cv2, ms2, rfl, hms2, hsa2, hsc2, hr2⟩ H13
  have hW14 := hW3.trans (H13.below.mono hW3.size)
  have hs15 := hs4.below H13.below
  have hs16 := hsa1.below H13.below
  have hs17 := hsc1.below H13.below
  have hs18 := (H13.at_ (k := 0) rfl).sls (by first | omega | (simp; done) | (simp; omega))
  have hr1 := fun m hm => (hr1 m hm).below H13.below
  refine Gx.val rfl rfl rfl (val_move rfl rfl) ?_
  refine Gx.val rfl rfl rfl (val_extract rfl rfl rfl) ?_
  refine Gx.val rfl rfl rfl (val_extract rfl rfl rfl) ?_
  refine Gx.val rfl rfl rfl (val_extract rfl rfl rfl) ?_
  refine Gx.val rfl rfl rfl (val_assign rfl rfl) ?_
  refine Gx.val rfl rfl rfl (val_assign rfl rfl) ?_
  refine Gx.val rfl rfl rfl (val_assign rfl rfl) ?_
  refine Gx.done ?_
  refine Gx.thenN ?_
  refine Gx.seq ?_
  refine Gx.seq ?_
  obtain ⟨hq1, hq2, hq3⟩ := swp_st (n := n) (s := ms0 n) hx hy h6 h7 h8
  rw [hq1, ← hms1] at hms2
  have hml2 : ms2.length = n := by
    have h9 := congrArg List.length hms2
    rw [List.length_map, List.length_map] at h9
    omega
  have hcl2 : (codesM n (ms0 n) (swp xs i x y)).length = xs.length := by rw [codesM_len, swp_len]
  obtain ⟨ea, hea⟩ := get_of_lt (xs := (codesM n (ms0 n) xs)) (k := i + 1) (by omega)
  obtain ⟨eb, heb⟩ := get_of_lt (xs := (codesM n (ms0 n) xs)) (k := i) (by omega)
  have hea2 := hq2.trans hea
  have heb2 := hq3.trans heb
  refine Gx.regionQ Try.mixed (by kernel_rfl) ?_
  refine Gq.val rfl rfl rfl (val_move rfl rfl) ?_
  refine Gq.val rfl rfl rfl (Val.cast (val_neq rfl rfl rfl) (v' := .bool false) rfl) ?_
  refine Gq.val rfl rfl rfl (val_move rfl rfl) ?_
  refine Gq.valg rfl rfl rfl rfl rfl (val_move rfl rfl) ?_
  refine Gq.valg rfl rfl rfl rfl rfl (val_len rfl Try.underlying35 rfl (len_base hsa2)) ?_
  refine Gq.valg rfl rfl rfl rfl rfl (val_move rfl rfl) ?_
  refine Gq.valg rfl rfl rfl rfl rfl (val_neq rfl rfl rfl) ?_
  refine Gq.val rfl rfl rfl (val_pickF rfl rfl rfl) ?_
  refine Gq.val rfl rfl rfl (val_move rfl rfl) ?_
  refine Gq.slot (t := 110) (v := .bool false) (look_decF rfl (by omega)) ?_
  refine Gq.valg rfl rfl rfl rfl rfl (val_move rfl rfl) ?_
  refine Gq.valg rfl rfl rfl rfl rfl (val_len rfl Try.underlying36 rfl (len_base hsc2)) ?_
  refine Gq.valg rfl rfl rfl rfl rfl (val_move rfl rfl) ?_
  refine Gq.valg rfl rfl rfl rfl rfl (val_len rfl Try.underlying36 rfl (len_base hs17)) ?_
  refine Gq.valg rfl rfl rfl rfl rfl (val_neq rfl rfl rfl) ?_
  refine Gq.val rfl rfl rfl (val_pickF rfl rfl rfl) ?_
  refine Gq.val rfl rfl rfl (val_move rfl rfl) ?_
  refine Gq.slot (t := 117) (v := .bool false) (look_decF rfl (by omega)) ?_
  refine Gq.valg rfl rfl rfl rfl rfl (val_move rfl rfl) ?_
  refine Gq.valg rfl rfl rfl rfl rfl (val_move rfl rfl) ?_
  refine Gq.valg rfl rfl rfl rfl rfl (val_ixa rfl Try.underlying36 Try.ty28 rfl rfl (j := i) (rfl) (reach_base hsc2 hea2)) ?_
  refine Gq.valg rfl rfl rfl rfl rfl (val_load rfl Try.ty28 rfl rfl (cell_base (i := 0) hsc2 hea2 rfl)) ?_
  refine Gq.valg rfl rfl rfl rfl rfl (val_move rfl rfl) ?_
  refine Gq.valg rfl rfl rfl rfl rfl (val_move rfl rfl) ?_
  refine Gq.valg rfl rfl rfl rfl rfl (val_add rfl rfl rfl (r := ((i + 1 : Nat) : Int)) (w64 (by omega) (by omega))) ?_
  refine Gq.valg rfl rfl rfl rfl rfl (val_ixa rfl Try.underlying36 Try.ty28 rfl rfl (j := i + 1) (rfl) (reach_base hs17 hea)) ?_
  refine Gq.valg rfl rfl rfl rfl rfl (val_load rfl Try.ty28 rfl rfl (cell_base (i := 0) (sz := 1) (j := i + 1) hs17 hea rfl)) ?_
  refine Gq.valg rfl rfl rfl rfl rfl (val_neq rfl rfl rfl) ?_
  refine Gq.val rfl rfl rfl (val_pickF rfl rfl rfl) ?_
  refine Gq.val rfl rfl rfl (val_move rfl rfl) ?_
  refine Gq.slot (t := 129) (v := .bool false) (look_decF rfl (fun q => q rfl)) ?_
  refine Gq.valg rfl rfl rfl rfl rfl (val_move rfl rfl) ?_
  refine Gq.valg rfl rfl rfl rfl rfl (val_move rfl rfl) ?_
  refine Gq.valg rfl rfl rfl rfl rfl (val_add rfl rfl rfl (r := ((i + 1 : Nat) : Int)) (w64 (by omega) (by omega))) ?_
  refine Gq.valg rfl rfl rfl rfl rfl (val_ixa rfl Try.underlying36 Try.ty28 rfl rfl (j := i + 1) (rfl) (reach_base hsc2 heb2)) ?_
  refine Gq.valg rfl rfl rfl rfl rfl (val_load rfl Try.ty28 rfl rfl (cell_base (i := 0) (sz := 1) (j := i + 1) hsc2 heb2 rfl)) ?_
  refine Gq.valg rfl rfl rfl rfl rfl (val_move rfl rfl) ?_
  refine Gq.valg rfl rfl rfl rfl rfl (val_move rfl rfl) ?_
  refine Gq.valg rfl rfl rfl rfl rfl (val_ixa rfl Try.underlying36 Try.ty28 rfl rfl (j := i) (rfl) (reach_base hs17 heb)) ?_
  refine Gq.valg rfl rfl rfl rfl rfl (val_load rfl Try.ty28 rfl rfl (cell_base (i := 0) hs17 heb rfl)) ?_
  refine Gq.valg rfl rfl rfl rfl rfl (val_neq rfl rfl rfl) ?_
  refine Gq.val rfl rfl rfl (val_pickF rfl rfl rfl) ?_
  refine Gq.done ?_
  refine Gx.thenN ?_
  refine Gx.decF rfl (fun q => q rfl) ?_
  refine Gx.skip ?_
  refine Gx.thenN ?_
  refine Gx.seq ?_
  refine Gx.seq ?_
  refine Gx.region ?_
  refine Gx.val rfl rfl rfl (val_assign rfl rfl) ?_
  refine Gx.done ?_
  refine Gx.thenN ?_
  refine Gx.block ?_
  refine Gx.loop (ι := Nat) (fun ξ => (ξ ≤ n)) (fun ξ => [(0, .int .i64 ((n : Nat) : Int)), (7, av1), (12, av2), (14, .int .i64 ((ξ : Nat) : Int))]) (fun ξ => []) (fun ξ => n - ξ) 0 (by first | omega | (dsimp only; omega)) ((.cons rfl (.cons rfl (.cons rfl (.cons rfl .nil))))) rfl ?_
  rintro q hq
  refine Gx.know (m' := [(0, .int .i64 ((n : Nat) : Int)), (7, av1), (12, av2), (14, .int .i64 ((q : Nat) : Int))]) (.cons rfl (.cons rfl (.cons rfl (.cons rfl .nil)))) (Gx.norm (l' := []) rfl ?_)
  refine Gx.seq ?_
  refine Gx.seq ?_
  refine Gx.region ?_
  refine Gx.val rfl rfl rfl (val_move rfl rfl) ?_
  refine Gx.val rfl rfl rfl (val_move rfl rfl) ?_
  refine Gx.val rfl rfl rfl (val_lss rfl rfl rfl) ?_
  refine Gx.done ?_
  refine Gx.thenN ?_
  refine Gx.dec rfl (fun h19 => ?_) (fun h19 => ?_)
  · refine Gx.skip ?_
    refine Gx.thenN ?_
    refine Gx.seq ?_
    refine Gx.block ?_
    refine Gx.seq ?_
    obtain ⟨m, hm⟩ := get_of_lt (xs := ms1) (k := q) (by omega)
    obtain ⟨m0, hm0⟩ := get_of_lt (xs := ms2) (k := q) (by omega)
    have hrm := hr1 m (List.mem_of_getElem? hm)
    have hrz := hr2 m0 (List.mem_of_getElem? hm0)
    have hsame : m.c = m0.c := by
      have h9 := congrArg (fun l : List Cp => l[q]?) hms2
      simp only [List.getElem?_map, hm, hm0, Option.map_some] at h9
      exact (Option.some.inj h9).symm
    refine Gx.regionQ Try.mixed (by kernel_rfl) ?_
    refine Gq.val rfl rfl rfl (val_move rfl rfl) ?_
    refine Gq.val rfl rfl rfl (val_move rfl rfl) ?_
    refine Gq.val rfl rfl rfl (val_ixa rfl Try.underlying35 Try.ty27 rfl rfl (j := q) (rfl) (reach_base hs16 hm)) ?_
    refine Gq.val rfl rfl rfl (Val.cast (val_loadA rfl Try.ty27 rfl rfl rfl (cells_base hs16 hm)) (v' := .agg #[.slice m.p.a m.p.n m.p.c, .int .i64 m.c.la.n, .int .i64 m.c.la.who, .int .i64 m.c.la.val, .slice m.q.a m.q.n m.q.c, .slice m.r.a m.r.n m.r.c]) rfl) ?_
    refine Gq.val rfl rfl rfl (val_move rfl rfl) ?_
    refine Gq.val rfl rfl rfl (val_move rfl rfl) ?_
    refine Gq.val rfl rfl rfl (val_ixa rfl Try.underlying35 Try.ty27 rfl rfl (j := q) (rfl) (reach_base hsa2 hm0)) ?_
    refine Gq.val rfl rfl rfl (Val.cast (val_loadA rfl Try.ty27 rfl rfl rfl (cells_base hsa2 hm0)) (v' := .agg #[.slice m0.p.a m0.p.n m0.p.c, .int .i64 m0.c.la.n, .int .i64 m0.c.la.who, .int .i64 m0.c.la.val, .slice m0.q.a m0.q.n m0.q.c, .slice m0.r.a m0.r.n m0.r.c]) rfl) ?_
    refine Gq.val rfl rfl rfl (val_call (vs := [.agg #[.slice m.p.a m.p.n m.p.c, .int .i64 m.c.la.n, .int .i64 m.c.la.who, .int .i64 m.c.la.val, .slice m.q.a m.q.n m.q.c, .slice m.r.a m.r.n m.r.c], .agg #[.slice m0.p.a m0.p.n m0.p.c, .int .i64 m0.c.la.n, .int .i64 m0.c.la.who, .int .i64 m0.c.la.val, .slice m0.q.a m0.q.n m0.q.c, .slice m0.r.a m0.r.n m0.r.c]]) rfl Try.fn11 rfl (fun w H => copies_any (s := m.c.la) (t := m0.c.la) (hrm.p.below H.below) (hrm.q.below H.below) (hrm.r.below H.below) (hrz.p.below H.below) (hrz.q.below H.below) (hrz.r.below H.below))) ?_
    refine Gq.val rfl rfl rfl (val_notD rfl rfl) ?_
    refine Gq.done ?_
    refine Gx.thenN ?_
    refine Gx.decF rfl (fun q => q (by rw [hsame]; exact ⟨rfl, rfl, rfl, rfl⟩)) ?_
    refine Gx.skip ?_
    refine Gx.blkN ?_
    refine Gx.thenN ?_
    refine Gx.region ?_
    refine Gx.val rfl rfl rfl (val_move rfl rfl) ?_
    refine Gx.val rfl rfl rfl (val_add rfl rfl rfl (r := ((q + 1 : Nat) : Int)) (w64 (by omega) (by omega))) ?_
    refine Gx.val rfl rfl rfl (val_assign rfl rfl) ?_
    refine Gx.done ?_
    refine Gx.thenN ?_
    exact Gx.round (q + 1) (by first | omega | (dsimp only; omega)) (by first | omega | (dsimp only; omega)) ((.cons rfl (.cons rfl (.cons rfl (.cons rfl .nil))))) rfl
  refine Gx.exit ?_
  refine Gx.thenE ?_
  refine Gx.thenE ?_
  refine Gx.blkE ?_
  refine Gx.thenN ?_
  refine Gx.seq ?_
  refine Gx.region ?_
  refine Gx.val rfl rfl rfl (val_assign rfl rfl) ?_
  refine Gx.done ?_
  refine Gx.thenN ?_
  refine Gx.ret ?_
  refine Gx.ret1B hW14 Try.results7 rfl ?_
  rfl

theorem swap_any {W : World} {z k : Int} {sv : Value} {xs : List Sy} (hk0 : 0 ≤ k) (hk : k ≤ 255) (hs : SlS FY 5 W sv xs) :
    Calls Try.prog 7 #[.int .i64 z, sv, .int .u8 k] W fun e w' => e = .returned (.bool true) ∧ Below W.heap.size W w' := by
  obtain ⟨k, rfl⟩ : ∃ q : Nat, k = (q : Int) := ⟨k.toNat, by omega⟩
  by_cases hbad : z < 1 ∨ 6 < z ∨ 120 < (xs.length : Int)
  · exact swap_no hs hbad
  · obtain ⟨n, rfl⟩ : ∃ n : Nat, z = (n : Int) := ⟨z.toNat, by omega⟩
    exact swap_yes hs (by omega) (by omega) (by omega) (by omega)
end Go.Proofs.Ytfpkfbffpkjgbaa
