/- When all has come, all hold something true, or none does. The walk. No condition. -/
import Derived.Test.YtbfcfekpfgpfbaaB2
import Derived.Test.YtbfcfekpfgpfbaaM4
namespace Go.Proofs.Ytbfcfekpfgpfbaa
open Go.RowKit
set_option linter.unusedVariables false
set_option linter.unusedSimpArgs false
set_option maxRecDepth 100000

abbrev bal : Mv := ⟨4, 0, 0, 0, 0, 0⟩
theorem notC_zero {l : List Mg} (h : ∀ m ∈ l, m.come = true) : notC l = 0 := by
  unfold notC
  rw [List.filter_eq_nil_iff.2 fun m hm => by rw [h m hm]; decide]; rfl
theorem total_long {W : World} {k f d z : Int} {sv : Value} {cs : List Mv} (hs : SlS FM 6 W sv cs) (hlg : 120 ≤ cs.length) :
    Calls Try.prog 4 #[.int .i64 k, .int .i64 f, .int .u32 z, .int .i64 d, sv] W fun e w' => e = .returned (.bool true) ∧ Below W.heap.size W w' := by
  refine calls_pure (Gx.enter (l := []) Try.func4 rfl Try.ntmps4 rfl (Sat.start W) ?_)
  refine Gx.know (m' := [(0, .int .i64 k), (1, .int .i64 f), (2, .int .u32 z), (3, .int .i64 d), (4, sv)]) (.cons rfl (.cons rfl (.cons rfl (.cons rfl (.cons rfl .nil))))) ?_
  refine Gx.seq ?_
  refine Gx.region ?_
  refine Gx.val rfl rfl rfl (val_assign rfl rfl) ?_
  refine Gx.done ?_
  refine Gx.thenN ?_
  refine Gx.seq ?_
  refine Gx.seq ?_
  refine Gx.region ?_
  refine Gx.val rfl rfl rfl (val_move rfl rfl) ?_
  refine Gx.val rfl rfl rfl (val_len rfl Try.underlying23 rfl (len_base hs)) ?_
  refine Gx.val rfl rfl rfl (val_geq rfl rfl rfl) ?_
  refine Gx.done ?_
  refine Gx.thenN ?_
  refine Gx.decT rfl (by omega) ?_
  refine Gx.seq ?_
  refine Gx.region ?_
  refine Gx.val rfl rfl rfl (val_assign rfl rfl) ?_
  refine Gx.done ?_
  refine Gx.thenN ?_
  refine Gx.ret ?_
  refine Gx.thenR ?_
  refine Gx.ret1 Try.results4 rfl ?_
  rfl

theorem total_bad {W : World} {k f d : Int} {L : Nat} {sv : Value} {cs : List Mv} (hs : SlS FM 6 W sv cs) (hlt : cs.length < 120) (hbad : ¬ Valid k f L d (cs ++ [bal])) :
    Calls Try.prog 4 #[.int .i64 k, .int .i64 f, .int .u32 ((L : Nat) : Int), .int .i64 d, sv] W fun e w' => e = .returned (.bool true) ∧ Below W.heap.size W w' := by
  refine calls_pure (Gx.enter (l := []) Try.func4 rfl Try.ntmps4 rfl (Sat.start W) ?_)
  refine Gx.know (m' := [(0, .int .i64 k), (1, .int .i64 f), (2, .int .u32 ((L : Nat) : Int)), (3, .int .i64 d), (4, sv)]) (.cons rfl (.cons rfl (.cons rfl (.cons rfl (.cons rfl .nil))))) ?_
  refine Gx.seq ?_
  refine Gx.region ?_
  refine Gx.val rfl rfl rfl (val_assign rfl rfl) ?_
  refine Gx.done ?_
  refine Gx.thenN ?_
  refine Gx.seq ?_
  refine Gx.seq ?_
  refine Gx.region ?_
  refine Gx.val rfl rfl rfl (val_move rfl rfl) ?_
  refine Gx.val rfl rfl rfl (val_len rfl Try.underlying23 rfl (len_base hs)) ?_
  refine Gx.val rfl rfl rfl (val_geq rfl rfl rfl) ?_
  refine Gx.done ?_
  refine Gx.thenN ?_
  refine Gx.decF rfl (by omega) ?_
  refine Gx.skip ?_
  refine Gx.thenN ?_
  refine Gx.seq ?_
  refine Gx.region ?_
  refine Gx.eff rfl rfl rfl (eff_buildNil (f := FM) (sz := 6) (e := 34) rfl Try.underlying23 (fun w => by first | (go_simp; done) | (go_simp; rfl))) ?_
  rintro v1 _ ⟨hiv1, rfl⟩
  refine Gx.val rfl rfl rfl (val_move rfl rfl) ?_
  refine Gx.eff rfl rfl rfl (eff_pushAll (k := 0) (ys := cs) rfl Try.eM FM_len FM_one rfl rfl (fun w H => hs.below H.below) rfl (by first | omega | (simp; omega)) (by first | omega | (simp; omega))) ?_
  rintro v2 _ ⟨hiv2, rfl⟩
  refine Gx.norm (l' := [Hp.own FM 6 v2 cs]) rfl ?_
  refine Gx.val rfl rfl rfl (val_build rfl (qs := [(0, .int .i64 4)]) rfl rfl (fun w => by go_simp) (v := .agg #[.int .i64 4, .int .i64 0, .int .i64 0, .int .i64 0, .int .i64 0, .int .i64 0])) ?_
  refine Gx.eff rfl rfl rfl (eff_buildSlice rfl (qs := [(0, .agg #[.int .i64 4, .int .i64 0, .int .i64 0, .int .i64 0, .int .i64 0, .int .i64 0])]) rfl rfl (cs := #[.int .i64 4, .int .i64 0, .int .i64 0, .int .i64 0, .int .i64 0, .int .i64 0]) (vs := [.int .i64 4, .int .i64 0, .int .i64 0, .int .i64 0, .int .i64 0, .int .i64 0]) (E := 34) rfl (fun w => by first | (go_simp; done) | (go_simp; rfl))) ?_
  rintro _ _ ⟨b3, rfl, rfl⟩
  refine Gx.eff rfl rfl rfl (eff_push (r := bal) rfl Try.eM FM_len FM_one rfl rfl (k := 0) rfl rfl (k' := 0) rfl (by first | omega | (simp; omega)) (by first | omega | (simp; omega))) ?_
  rintro v4 _ ⟨hiv4, rfl⟩
  refine Gx.norm (l' := [Hp.own FM 6 v4 (cs ++ [bal])]) rfl ?_
  refine Gx.val rfl rfl rfl (val_assign rfl rfl) ?_
  refine Gx.done ?_
  refine Gx.thenN ?_
  refine Gx.seq ?_
  refine Gx.norm (l' := [Hp.own FM 6 v4 (cs ++ [bal])]) (by simp <;> rfl) ?_
  refine Gx.region ?_
  refine Gx.val rfl rfl rfl (val_move rfl rfl) ?_
  refine Gx.val rfl rfl rfl (val_move rfl rfl) ?_
  refine Gx.val rfl rfl rfl (val_move rfl rfl) ?_
  refine Gx.val rfl rfl rfl (val_move rfl rfl) ?_
  refine Gx.val rfl rfl rfl (val_move rfl rfl) ?_
  refine Gx.eff rfl rfl rfl (eff_callE (vs := [.int .i64 k, .int .i64 f, .int .u32 ((L : Nat) : Int), .int .i64 d, v4]) rfl Try.fn7 rfl (R := fun v => ∃ z : Int, z ≠ 0 ∧ v = .tuple #[.agg #[.slice none 0 0, .slice none 0 0, .slice none 0 0, .int .i64 0, .int .i64 0], .int .i64 z]) (fun w H => play_bad ((H.at_ (k := 0) rfl).sls (by first | omega | (simp; omega))) hbad)) ?_
  rintro _ _ ⟨⟨zz5, hzz6, rfl⟩, rfl⟩
  refine Gx.val rfl rfl rfl (val_move rfl rfl) ?_
  refine Gx.val rfl rfl rfl (val_extract rfl rfl rfl) ?_
  refine Gx.val rfl rfl rfl (val_extract rfl rfl rfl) ?_
  refine Gx.eff rfl rfl rfl (eff_alloc rfl Try.ty28 (vs := [.slice none 0 0, .slice none 0 0, .slice none 0 0, .int .i64 0, .int .i64 0]) rfl) ?_
  rintro _ _ ⟨b7, rfl, rfl⟩
  refine Gx.eff0 rfl rfl (eff_store rfl Try.ty28 rfl rfl (us := [.slice none 0 0, .slice none 0 0, .slice none 0 0, .int .i64 0, .int .i64 0]) rfl rfl rfl (k := 0) rfl (rfl) (vs' := [.slice none 0 0, .slice none 0 0, .slice none 0 0, .int .i64 0, .int .i64 0]) (rfl) (l' := [Hp.rec_ b7 [.slice none 0 0, .slice none 0 0, .slice none 0 0, .int .i64 0, .int .i64 0], Hp.own FM 6 v4 (cs ++ [bal])]) rfl) ?_
  rintro _ _ rfl
  refine Gx.val rfl rfl rfl (val_assign rfl rfl) ?_
  refine Gx.done ?_
  refine Gx.thenN ?_
  refine Gx.seq ?_
  refine Gx.seq ?_
  refine Gx.region ?_
  refine Gx.val rfl rfl rfl (val_move rfl rfl) ?_
  refine Gx.val rfl rfl rfl (val_neq rfl rfl rfl) ?_
  refine Gx.done ?_
  refine Gx.thenN ?_
  refine Gx.decT rfl (by omega) ?_
  refine Gx.seq ?_
  refine Gx.region ?_
  refine Gx.val rfl rfl rfl (Val.cast (val_fieldAddr rfl Try.underlying28 rfl Try.ty24 rfl rfl) (v' := ptr b7 0) rfl) ?_
  refine Gx.val rfl rfl rfl (val_load rfl Try.ty24 rfl rfl (cell_rec (k := 0) rfl rfl)) ?_
  refine Gx.val rfl rfl rfl (val_len rfl Try.underlying24 rfl len_lit) ?_
  refine Gx.val rfl rfl rfl (Val.cast (val_eql rfl rfl rfl) (v' := .bool true) rfl) ?_
  refine Gx.val rfl rfl rfl (val_assign rfl rfl) ?_
  refine Gx.done ?_
  refine Gx.thenN ?_
  refine Gx.ret ?_
  refine Gx.thenR ?_
  refine Gx.ret1 Try.results4 rfl ?_
  rfl

theorem total_yes {W : World} {c : Cf} {sv : Value} {cs : List Mv} (hs : SlS FM 6 W sv cs) (h1n : 1 ≤ c.n) (h7n : c.n ≤ 7) (hlt : cs.length < 120) (hf : c.f ≤ (c.n - 1) / 3) (hLn : c.L >>> c.n = 0) (hL : c.L < 4294967296) (hsn : c.snd < c.n) :
    Calls Try.prog 4 #[.int .i64 ((c.n : Nat) : Int), .int .i64 ((c.f : Nat) : Int), .int .u32 ((c.L : Nat) : Int), .int .i64 ((c.snd : Nat) : Int), sv] W fun e w' => e = .returned (.bool true) ∧ Below W.heap.size W w' := by
  have htot := total hsn h7n (by omega) (cs := cs) (x := bal) rfl (by omega)
  refine calls_pure (Gx.enter (l := []) Try.func4 rfl Try.ntmps4 rfl (Sat.start W) ?_)
  refine Gx.know (m' := [(0, .int .i64 ((c.n : Nat) : Int)), (1, .int .i64 ((c.f : Nat) : Int)), (2, .int .u32 ((c.L : Nat) : Int)), (3, .int .i64 ((c.snd : Nat) : Int)), (4, sv)]) (.cons rfl (.cons rfl (.cons rfl (.cons rfl (.cons rfl .nil))))) ?_
  refine Gx.seq ?_
  refine Gx.region ?_
  refine Gx.val rfl rfl rfl (val_assign rfl rfl) ?_
  refine Gx.done ?_
  refine Gx.thenN ?_
  refine Gx.seq ?_
  refine Gx.seq ?_
  refine Gx.region ?_
  refine Gx.val rfl rfl rfl (val_move rfl rfl) ?_
  refine Gx.val rfl rfl rfl (val_len rfl Try.underlying23 rfl (len_base hs)) ?_
  refine Gx.val rfl rfl rfl (val_geq rfl rfl rfl) ?_
  refine Gx.done ?_
  refine Gx.thenN ?_
  refine Gx.decF rfl (by omega) ?_
  refine Gx.skip ?_
  refine Gx.thenN ?_
  refine Gx.seq ?_
  refine Gx.region ?_
  refine Gx.eff rfl rfl rfl (eff_buildNil (f := FM) (sz := 6) (e := 34) rfl Try.underlying23 (fun w => by first | (go_simp; done) | (go_simp; rfl))) ?_
  rintro v1 _ ⟨hiv1, rfl⟩
  refine Gx.val rfl rfl rfl (val_move rfl rfl) ?_
  refine Gx.eff rfl rfl rfl (eff_pushAll (k := 0) (ys := cs) rfl Try.eM FM_len FM_one rfl rfl (fun w H => hs.below H.below) rfl (by first | omega | (simp; omega)) (by first | omega | (simp; omega))) ?_
  rintro v2 _ ⟨hiv2, rfl⟩
  refine Gx.norm (l' := [Hp.own FM 6 v2 cs]) rfl ?_
  refine Gx.val rfl rfl rfl (val_build rfl (qs := [(0, .int .i64 4)]) rfl rfl (fun w => by go_simp) (v := .agg #[.int .i64 4, .int .i64 0, .int .i64 0, .int .i64 0, .int .i64 0, .int .i64 0])) ?_
  refine Gx.eff rfl rfl rfl (eff_buildSlice rfl (qs := [(0, .agg #[.int .i64 4, .int .i64 0, .int .i64 0, .int .i64 0, .int .i64 0, .int .i64 0])]) rfl rfl (cs := #[.int .i64 4, .int .i64 0, .int .i64 0, .int .i64 0, .int .i64 0, .int .i64 0]) (vs := [.int .i64 4, .int .i64 0, .int .i64 0, .int .i64 0, .int .i64 0, .int .i64 0]) (E := 34) rfl (fun w => by first | (go_simp; done) | (go_simp; rfl))) ?_
  rintro _ _ ⟨b3, rfl, rfl⟩
  refine Gx.eff rfl rfl rfl (eff_push (r := bal) rfl Try.eM FM_len FM_one rfl rfl (k := 0) rfl rfl (k' := 0) rfl (by first | omega | (simp; omega)) (by first | omega | (simp; omega))) ?_
  rintro v4 _ ⟨hiv4, rfl⟩
  refine Gx.norm (l' := [Hp.own FM 6 v4 (cs ++ [bal])]) rfl ?_
  refine Gx.val rfl rfl rfl (val_assign rfl rfl) ?_
  refine Gx.done ?_
  refine Gx.thenN ?_
  refine Gx.seq ?_
  refine Gx.norm (l' := [Hp.own FM 6 v4 (cs ++ [bal])]) (by simp <;> rfl) ?_
  refine Gx.region ?_
  refine Gx.val rfl rfl rfl (val_move rfl rfl) ?_
  refine Gx.val rfl rfl rfl (val_move rfl rfl) ?_
  refine Gx.val rfl rfl rfl (val_move rfl rfl) ?_
  refine Gx.val rfl rfl rfl (val_move rfl rfl) ?_
  refine Gx.val rfl rfl rfl (val_move rfl rfl) ?_
  refine Gx.callB rfl rfl rfl (vs := [.int .i64 ((c.n : Nat) : Int), .int .i64 ((c.f : Nat) : Int), .int .u32 ((c.L : Nat) : Int), .int .i64 ((c.snd : Nat) : Int), v4]) rfl Try.fn7 rfl (R := fun v w' => ∃ (cv wv uv : Value), v = .tuple #[.agg #[cv, wv, uv, .int .i64 (((stB c (bs0 c.n) (cs ++ [bal])).all.length : Nat) : Int), .int .i64 ((notC (stB c (bs0 c.n) (cs ++ [bal])).all : Nat) : Int)], .int .i64 0] ∧ SlS FZ 1 w' cv (codesB c (bs0 c.n) (cs ++ [bal])) ∧ SlS FB 1 w' wv ((stB c (bs0 c.n) (cs ++ [bal])).ps.map Pr.has) ∧ SlS FI 1 w' uv ((stB c (bs0 c.n) (cs ++ [bal])).ps.map Pr.val)) (fun w H => play_ok ((H.at_ (k := 0) rfl).sls (by first | omega | (simp; omega))) h1n h7n (by first | omega | (simp; omega)) hf hLn hL hsn) ?_
  rintro _ W8 ⟨cv5, wv6, uv7, rfl, hcv5, hwv6, huv7⟩ H9
  have hW10 := H9.below
  have hs11 := hs.below H9.below
  have hs12 := (H9.at_ (k := 0) rfl).sls (by first | omega | (simp; omega))
  have hclcv5 : (codesB c (bs0 c.n) (cs ++ [bal])).length = ((cs ++ [bal])).length := codesB_len ..
  have hplcv5 : (stB c (bs0 c.n) (cs ++ [bal])).ps.length = c.n := stB_plen hsn (cs ++ [bal])
  have hwlcv5 : ((stB c (bs0 c.n) (cs ++ [bal])).ps.map Pr.has).length = c.n := by rw [List.length_map]; exact hplcv5
  have hulcv5 : ((stB c (bs0 c.n) (cs ++ [bal])).ps.map Pr.val).length = c.n := by rw [List.length_map]; exact hplcv5
  obtain ⟨sa13, sn14, sc15, rfl⟩ := hcv5.isS
  obtain ⟨sa16, sn17, sc18, rfl⟩ := hwv6.isS
  obtain ⟨sa19, sn20, sc21, rfl⟩ := huv7.isS
  refine Gx.val rfl rfl rfl (val_move rfl rfl) ?_
  refine Gx.val rfl rfl rfl (val_extract rfl rfl rfl) ?_
  refine Gx.val rfl rfl rfl (val_extract rfl rfl rfl) ?_
  refine Gx.eff rfl rfl rfl (eff_alloc rfl Try.ty28 (vs := [.slice none 0 0, .slice none 0 0, .slice none 0 0, .int .i64 0, .int .i64 0]) rfl) ?_
  rintro _ _ ⟨b22, rfl, rfl⟩
  refine Gx.eff0 rfl rfl (eff_store rfl Try.ty28 rfl rfl (us := [.slice sa13 sn14 sc15, .slice sa16 sn17 sc18, .slice sa19 sn20 sc21, .int .i64 (((stB c (bs0 c.n) (cs ++ [bal])).all.length : Nat) : Int), .int .i64 ((notC (stB c (bs0 c.n) (cs ++ [bal])).all : Nat) : Int)]) rfl rfl rfl (k := 0) rfl (rfl) (vs' := [.slice sa13 sn14 sc15, .slice sa16 sn17 sc18, .slice sa19 sn20 sc21, .int .i64 (((stB c (bs0 c.n) (cs ++ [bal])).all.length : Nat) : Int), .int .i64 ((notC (stB c (bs0 c.n) (cs ++ [bal])).all : Nat) : Int)]) (rfl) (l' := [Hp.rec_ b22 [.slice sa13 sn14 sc15, .slice sa16 sn17 sc18, .slice sa19 sn20 sc21, .int .i64 (((stB c (bs0 c.n) (cs ++ [bal])).all.length : Nat) : Int), .int .i64 ((notC (stB c (bs0 c.n) (cs ++ [bal])).all : Nat) : Int)]]) rfl) ?_
  rintro _ _ rfl
  refine Gx.val rfl rfl rfl (val_assign rfl rfl) ?_
  refine Gx.done ?_
  refine Gx.thenN ?_
  refine Gx.seq ?_
  refine Gx.seq ?_
  refine Gx.region ?_
  refine Gx.val rfl rfl rfl (val_move rfl rfl) ?_
  refine Gx.val rfl rfl rfl (Val.cast (val_neq rfl rfl rfl) (v' := .bool false) rfl) ?_
  refine Gx.done ?_
  refine Gx.thenN ?_
  refine Gx.f rfl ?_
  refine Gx.skip ?_
  refine Gx.thenN ?_
  refine Gx.seq ?_
  refine Gx.seq ?_
  have hxl : (cs ++ [bal]).length = cs.length + 1 := by simp
  have hnc : notC (stB c (bs0 c.n) (cs ++ [bal])).all = 0 := notC_zero htot.1
  refine Gx.region ?_
  refine Gx.val rfl rfl rfl (Val.cast (val_fieldAddr rfl Try.underlying28 rfl Try.ty25 rfl rfl) (v' := ptr b22 1) rfl) ?_
  refine Gx.val rfl rfl rfl (val_load rfl Try.ty25 rfl rfl (cell_rec (k := 0) rfl rfl)) ?_
  refine Gx.val rfl rfl rfl (val_len rfl Try.underlying25 rfl (len_base hwv6)) ?_
  refine Gx.val rfl rfl rfl (val_move rfl rfl) ?_
  refine Gx.val rfl rfl rfl (val_neq rfl rfl rfl) ?_
  refine Gx.val rfl rfl rfl (val_move rfl rfl) ?_
  refine Gx.slot (t := 49) (v := .bool false) (look_decF rfl (by omega)) ?_
  refine Gx.valg rfl rfl rfl rfl rfl (Val.cast (val_fieldAddr rfl Try.underlying28 rfl Try.ty24 rfl rfl) (v' := ptr b22 0) rfl) ?_
  refine Gx.valg rfl rfl rfl rfl rfl (val_load rfl Try.ty24 rfl rfl (cell_rec (k := 0) rfl rfl)) ?_
  refine Gx.valg rfl rfl rfl rfl rfl (val_len rfl Try.underlying24 rfl (len_base hcv5)) ?_
  refine Gx.valg rfl rfl rfl rfl rfl (val_move rfl rfl) ?_
  refine Gx.valg rfl rfl rfl rfl rfl (val_len rfl Try.underlying23 rfl (len_base hs12)) ?_
  refine Gx.valg rfl rfl rfl rfl rfl (val_neq rfl rfl rfl) ?_
  refine Gx.val rfl rfl rfl (val_pickF rfl rfl rfl) ?_
  refine Gx.val rfl rfl rfl (val_move rfl rfl) ?_
  refine Gx.slot (t := 57) (v := .bool false) (look_decF rfl (by omega)) ?_
  refine Gx.valg rfl rfl rfl rfl rfl (Val.cast (val_fieldAddr rfl Try.underlying28 rfl Try.ty3 rfl rfl) (v' := ptr b22 4) rfl) ?_
  refine Gx.valg rfl rfl rfl rfl rfl (val_load rfl Try.ty3 rfl rfl (cell_rec (k := 0) rfl rfl)) ?_
  refine Gx.valg rfl rfl rfl rfl rfl (val_neq rfl rfl rfl) ?_
  refine Gx.val rfl rfl rfl (val_pickF rfl rfl rfl) ?_
  refine Gx.done ?_
  refine Gx.thenN ?_
  refine Gx.decF rfl (by omega) ?_
  refine Gx.skip ?_
  refine Gx.thenN ?_
  refine Gx.seq ?_
  refine Gx.seq ?_
  refine Gx.region ?_
  refine Gx.val rfl rfl rfl (val_move rfl rfl) ?_
  refine Gx.val rfl rfl rfl (val_move rfl rfl) ?_
  refine Gx.val rfl rfl rfl (val_move rfl rfl) ?_
  refine Gx.val rfl rfl rfl (val_call (vs := [.int .u32 ((c.L : Nat) : Int), .int .i64 ((c.n : Nat) : Int), .int .i64 ((c.f : Nat) : Int)]) rfl Try.fn8 rfl (fun w H => few_c hL h7n)) ?_
  refine Gx.val rfl rfl rfl (val_not rfl rfl) ?_
  refine Gx.done ?_
  refine Gx.thenN ?_
  refine Gx.bool rfl (fun h23 => ?_) (fun h23 => ?_)
  · refine Gx.seq ?_
    refine Gx.region ?_
    refine Gx.val rfl rfl rfl (val_assign rfl rfl) ?_
    refine Gx.done ?_
    refine Gx.thenN ?_
    refine Gx.ret ?_
    refine Gx.thenR ?_
    refine Gx.ret1B hW10 Try.results4 rfl ?_
    first | rfl | (exact congrArg Value.bool (by rcases htl with h | ⟨h1, h2⟩ <;> first | (exfalso; have := hA h; omega) | (rw [hkn, h1]; rfl)))
  · refine Gx.skip ?_
    refine Gx.thenN ?_
    refine Gx.seq ?_
    have htl := htot.2 (few_liars (by simpa using h23) (by omega))
    refine Gx.region ?_
    refine Gx.val rfl rfl rfl (val_assign rfl rfl) ?_
    refine Gx.done ?_
    refine Gx.thenN ?_
    refine Gx.seq ?_
    refine Gx.region ?_
    refine Gx.val rfl rfl rfl (val_assign rfl rfl) ?_
    refine Gx.done ?_
    refine Gx.thenN ?_
    refine Gx.seq ?_
    refine Gx.seq ?_
    refine Gx.region ?_
    refine Gx.val rfl rfl rfl (val_assign rfl rfl) ?_
    refine Gx.done ?_
    refine Gx.thenN ?_
    refine Gx.block ?_
    refine Gx.loop (ι := Nat × Nat × Nat) (fun ξ => (ξ.1 ≤ c.n) ∧ (ξ.2.1 ≤ ξ.1 ∧ ξ.2.2 ≤ ξ.1) ∧ (AH c (stB c (bs0 c.n) (cs ++ [bal])) → ξ.2.1 = ξ.2.2) ∧ (NH c (stB c (bs0 c.n) (cs ++ [bal])) → ξ.2.1 = 0)) (fun ξ => [(0, .int .i64 ((c.n : Nat) : Int)), (2, .int .u32 ((c.L : Nat) : Int)), (4, sv), (12, ptr b22 0), (14, .int .i64 ((ξ.2.1 : Nat) : Int)), (15, .int .i64 ((ξ.2.2 : Nat) : Int)), (16, .int .i64 ((ξ.1 : Nat) : Int))]) (fun ξ => [Hp.rec_ b22 [.slice sa13 sn14 sc15, .slice sa16 sn17 sc18, .slice sa19 sn20 sc21, .int .i64 (((stB c (bs0 c.n) (cs ++ [bal])).all.length : Nat) : Int), .int .i64 ((notC (stB c (bs0 c.n) (cs ++ [bal])).all : Nat) : Int)]]) (fun ξ => c.n - ξ.1) (0, 0, 0) ⟨by first | omega | (dsimp only; omega), ⟨Nat.le_refl _, Nat.le_refl _⟩, fun _ => rfl, fun _ => rfl⟩ ((.cons rfl (.cons rfl (.cons rfl (.cons rfl (.cons rfl (.cons rfl (.cons rfl .nil)))))))) rfl ?_
    rintro ⟨i, hs, ly⟩ ⟨hi, hsi, hA, hB⟩
    dsimp only at hi hsi hA hB
    refine Gx.know (m' := [(0, .int .i64 ((c.n : Nat) : Int)), (2, .int .u32 ((c.L : Nat) : Int)), (4, sv), (12, ptr b22 0), (14, .int .i64 ((hs : Nat) : Int)), (15, .int .i64 ((ly : Nat) : Int)), (16, .int .i64 ((i : Nat) : Int))]) (.cons rfl (.cons rfl (.cons rfl (.cons rfl (.cons rfl (.cons rfl (.cons rfl .nil))))))) (Gx.norm (l' := [Hp.rec_ b22 [.slice sa13 sn14 sc15, .slice sa16 sn17 sc18, .slice sa19 sn20 sc21, .int .i64 (((stB c (bs0 c.n) (cs ++ [bal])).all.length : Nat) : Int), .int .i64 ((notC (stB c (bs0 c.n) (cs ++ [bal])).all : Nat) : Int)]]) rfl ?_)
    refine Gx.seq ?_
    refine Gx.seq ?_
    refine Gx.region ?_
    refine Gx.val rfl rfl rfl (val_move rfl rfl) ?_
    refine Gx.val rfl rfl rfl (val_move rfl rfl) ?_
    refine Gx.val rfl rfl rfl (val_lss rfl rfl rfl) ?_
    refine Gx.done ?_
    refine Gx.thenN ?_
    refine Gx.dec rfl (fun h24 => ?_) (fun h24 => ?_)
    · refine Gx.skip ?_
      refine Gx.thenN ?_
      refine Gx.seq ?_
      refine Gx.block ?_
      refine Gx.seq ?_
      refine Gx.region ?_
      refine Gx.val rfl rfl rfl (val_move rfl rfl) ?_
      refine Gx.val rfl rfl rfl (val_move rfl rfl) ?_
      refine Gx.val rfl rfl rfl (val_call (vs := [.int .u32 ((c.L : Nat) : Int), .int .i64 ((i : Nat) : Int)]) rfl Try.fn9 rfl (fun w H => bit_c hL (by omega))) ?_
      refine Gx.val rfl rfl rfl (val_not rfl rfl) ?_
      refine Gx.done ?_
      refine Gx.thenN ?_
      refine Gx.bool rfl (fun h25 => ?_) (fun h25 => ?_)
      · refine Gx.seq ?_
        refine Gx.region ?_
        refine Gx.val rfl rfl rfl (val_move rfl rfl) ?_
        refine Gx.val rfl rfl rfl (val_add rfl rfl rfl (r := ((ly + 1 : Nat) : Int)) (w64 (by omega) (by omega))) ?_
        refine Gx.val rfl rfl rfl (val_assign rfl rfl) ?_
        refine Gx.done ?_
        refine Gx.thenN ?_
        refine Gx.seq ?_
        obtain ⟨p26, hp26⟩ := get_of_lt (xs := (stB c (bs0 c.n) (cs ++ [bal])).ps) (k := i) (by omega)
        have hp26h : ((stB c (bs0 c.n) (cs ++ [bal])).ps.map Pr.has)[i]? = some p26.has := by rw [List.getElem?_map, hp26]; rfl
        refine Gx.region ?_
        refine Gx.val rfl rfl rfl (Val.cast (val_fieldAddr rfl Try.underlying28 rfl Try.ty25 rfl rfl) (v' := ptr b22 1) rfl) ?_
        refine Gx.val rfl rfl rfl (val_load rfl Try.ty25 rfl rfl (cell_rec (k := 0) rfl rfl)) ?_
        refine Gx.val rfl rfl rfl (val_move rfl rfl) ?_
        refine Gx.val rfl rfl rfl (val_ixa rfl Try.underlying25 Try.ty4 rfl rfl (j := i) (rfl) (reach_base hwv6 hp26h)) ?_
        refine Gx.val rfl rfl rfl (val_load rfl Try.ty4 rfl rfl (cell_base (i := 0) hwv6 hp26h rfl)) ?_
        refine Gx.done ?_
        refine Gx.thenN ?_
        refine Gx.bool rfl (fun h27 => ?_) (fun h27 => ?_)
        · refine Gx.region ?_
          refine Gx.val rfl rfl rfl (val_move rfl rfl) ?_
          refine Gx.val rfl rfl rfl (val_add rfl rfl rfl (r := ((hs + 1 : Nat) : Int)) (w64 (by omega) (by omega))) ?_
          refine Gx.val rfl rfl rfl (val_assign rfl rfl) ?_
          refine Gx.done ?_
          refine Gx.blkN ?_
          refine Gx.thenN ?_
          refine Gx.region ?_
          refine Gx.val rfl rfl rfl (val_move rfl rfl) ?_
          refine Gx.val rfl rfl rfl (val_add rfl rfl rfl (r := ((i + 1 : Nat) : Int)) (w64 (by omega) (by omega))) ?_
          refine Gx.val rfl rfl rfl (val_assign rfl rfl) ?_
          refine Gx.done ?_
          refine Gx.thenN ?_
          exact Gx.round (i + 1, hs + 1, ly + 1) ⟨by first | omega | (dsimp only; omega), by first | omega | (dsimp only; omega), fun (h : AH c (stB c (bs0 c.n) (cs ++ [bal]))) => by have := hA h; dsimp only; omega, fun (h : NH c (stB c (bs0 c.n) (cs ++ [bal]))) => absurd ((h i p26 hp26 (show Hon c i by have := h25; simpa [Hon, liesB] using this)).symm.trans h27) (by decide)⟩ (by first | omega | (dsimp only; omega)) ((.cons rfl (.cons rfl (.cons rfl (.cons rfl (.cons rfl (.cons rfl (.cons rfl .nil)))))))) rfl
        · refine Gx.skip ?_
          refine Gx.blkN ?_
          refine Gx.thenN ?_
          refine Gx.region ?_
          refine Gx.val rfl rfl rfl (val_move rfl rfl) ?_
          refine Gx.val rfl rfl rfl (val_add rfl rfl rfl (r := ((i + 1 : Nat) : Int)) (w64 (by omega) (by omega))) ?_
          refine Gx.val rfl rfl rfl (val_assign rfl rfl) ?_
          refine Gx.done ?_
          refine Gx.thenN ?_
          exact Gx.round (i + 1, hs, ly + 1) ⟨by first | omega | (dsimp only; omega), by first | omega | (dsimp only; omega), fun (h : AH c (stB c (bs0 c.n) (cs ++ [bal]))) => absurd ((h i p26 hp26 (show Hon c i by have := h25; simpa [Hon, liesB] using this)).symm.trans h27) (by decide), hB⟩ (by first | omega | (dsimp only; omega)) ((.cons rfl (.cons rfl (.cons rfl (.cons rfl (.cons rfl (.cons rfl (.cons rfl .nil)))))))) rfl
      · refine Gx.skip ?_
        refine Gx.blkN ?_
        refine Gx.thenN ?_
        refine Gx.region ?_
        refine Gx.val rfl rfl rfl (val_move rfl rfl) ?_
        refine Gx.val rfl rfl rfl (val_add rfl rfl rfl (r := ((i + 1 : Nat) : Int)) (w64 (by omega) (by omega))) ?_
        refine Gx.val rfl rfl rfl (val_assign rfl rfl) ?_
        refine Gx.done ?_
        refine Gx.thenN ?_
        exact Gx.round (i + 1, hs, ly) ⟨by first | omega | (dsimp only; omega), by first | omega | (dsimp only; omega), by first | omega | (dsimp only; omega), by first | omega | (dsimp only; omega)⟩ (by first | omega | (dsimp only; omega)) ((.cons rfl (.cons rfl (.cons rfl (.cons rfl (.cons rfl (.cons rfl (.cons rfl .nil)))))))) rfl
    · refine Gx.exit ?_
      refine Gx.thenE ?_
      refine Gx.thenE ?_
      refine Gx.blkE ?_
      refine Gx.thenN ?_
      refine Gx.seq ?_
      refine Gx.region ?_
      refine Gx.val rfl rfl rfl (val_assign rfl rfl) ?_
      refine Gx.done ?_
      refine Gx.thenN ?_
      refine Gx.seq ?_
      refine Gx.seq ?_
      refine Gx.region ?_
      refine Gx.val rfl rfl rfl (val_move rfl rfl) ?_
      refine Gx.val rfl rfl rfl (val_len rfl Try.underlying23 rfl (len_base hs11)) ?_
      refine Gx.val rfl rfl rfl (val_move rfl rfl) ?_
      refine Gx.done ?_
      refine Gx.thenN ?_
      refine Gx.block ?_
      refine Gx.loop (ι := Nat × Bool) (fun ξ => (ξ.1 ≤ cs.length) ∧ (ξ.2 = (wkB (cs ++ [bal]) (codesB c (bs0 c.n) (cs ++ [bal])) ξ.1).1)) (fun ξ => [(12, ptr b22 0), (14, .int .i64 ((hs : Nat) : Int)), (15, .int .i64 ((ly : Nat) : Int)), (85, sv), (86, .int .i64 ((cs.length : Nat) : Int)), (87, .int .i64 ((ξ.1 : Nat) : Int)), (17, .bool ξ.2)]) (fun ξ => [Hp.rec_ b22 [.slice sa13 sn14 sc15, .slice sa16 sn17 sc18, .slice sa19 sn20 sc21, .int .i64 (((stB c (bs0 c.n) (cs ++ [bal])).all.length : Nat) : Int), .int .i64 ((notC (stB c (bs0 c.n) (cs ++ [bal])).all : Nat) : Int)]]) (fun ξ => cs.length - ξ.1) (0, false) ⟨by first | omega | (dsimp only; omega), rfl⟩ ((.cons rfl (.cons rfl (.cons rfl (.cons rfl (.cons rfl (.cons rfl (.cons rfl .nil)))))))) rfl ?_
      rintro ⟨i, kn⟩ ⟨hi, hkn⟩
      dsimp only at hi hkn
      refine Gx.know (m' := [(12, ptr b22 0), (14, .int .i64 ((hs : Nat) : Int)), (15, .int .i64 ((ly : Nat) : Int)), (85, sv), (86, .int .i64 ((cs.length : Nat) : Int)), (87, .int .i64 ((i : Nat) : Int)), (17, .bool kn)]) (.cons rfl (.cons rfl (.cons rfl (.cons rfl (.cons rfl (.cons rfl (.cons rfl .nil))))))) (Gx.norm (l' := [Hp.rec_ b22 [.slice sa13 sn14 sc15, .slice sa16 sn17 sc18, .slice sa19 sn20 sc21, .int .i64 (((stB c (bs0 c.n) (cs ++ [bal])).all.length : Nat) : Int), .int .i64 ((notC (stB c (bs0 c.n) (cs ++ [bal])).all : Nat) : Int)]]) rfl ?_)
      refine Gx.seq ?_
      refine Gx.region ?_
      refine Gx.val rfl rfl rfl (val_lss rfl rfl rfl) ?_
      refine Gx.done ?_
      refine Gx.thenN ?_
      refine Gx.seq ?_
      refine Gx.dec rfl (fun h28 => ?_) (fun h28 => ?_)
      · refine Gx.skip ?_
        refine Gx.thenN ?_
        refine Gx.seq ?_
        refine Gx.block ?_
        refine Gx.seq ?_
        refine Gx.region ?_
        refine Gx.val rfl rfl rfl (val_move rfl rfl) ?_
        obtain ⟨x29, hx29⟩ := get_of_lt (xs := cs) (k := i) (by omega)
        refine Gx.val rfl rfl rfl (val_ixa rfl Try.underlying23 Try.ty34 rfl rfl (j := i) (rfl) (reach_base hs11 hx29)) ?_
        refine Gx.val rfl rfl rfl (Val.cast (val_loadA rfl Try.ty34 rfl rfl rfl (cells_base hs11 hx29)) (v' := .agg #[.int .i64 x29.kind, .int .i64 x29.frm, .int .i64 x29.to, .int .i64 x29.what, .int .i64 x29.msg, .int .i64 x29.n]) rfl) ?_
        refine Gx.eff rfl rfl rfl (eff_alloc rfl Try.ty34 (vs := [.int .i64 0, .int .i64 0, .int .i64 0, .int .i64 0, .int .i64 0, .int .i64 0]) rfl) ?_
        rintro _ _ ⟨b30, rfl, rfl⟩
        refine Gx.val rfl rfl rfl (val_assign rfl rfl) ?_
        refine Gx.eff0 rfl rfl (eff_store rfl Try.ty34 rfl rfl (us := [.int .i64 x29.kind, .int .i64 x29.frm, .int .i64 x29.to, .int .i64 x29.what, .int .i64 x29.msg, .int .i64 x29.n]) rfl rfl rfl (k := 0) rfl (rfl) (vs' := [.int .i64 x29.kind, .int .i64 x29.frm, .int .i64 x29.to, .int .i64 x29.what, .int .i64 x29.msg, .int .i64 x29.n]) (rfl) (l' := [Hp.rec_ b30 [.int .i64 x29.kind, .int .i64 x29.frm, .int .i64 x29.to, .int .i64 x29.what, .int .i64 x29.msg, .int .i64 x29.n], Hp.rec_ b22 [.slice sa13 sn14 sc15, .slice sa16 sn17 sc18, .slice sa19 sn20 sc21, .int .i64 (((stB c (bs0 c.n) (cs ++ [bal])).all.length : Nat) : Int), .int .i64 ((notC (stB c (bs0 c.n) (cs ++ [bal])).all : Nat) : Int)]]) rfl) ?_
        rintro _ _ rfl
        refine Gx.done ?_
        refine Gx.thenN ?_
        refine Gx.region ?_
        refine Gx.val rfl rfl rfl (val_move rfl rfl) ?_
        refine Gx.val rfl rfl rfl (val_move rfl rfl) ?_
        refine Gx.casesB (t := 93) rfl (fun h31 => ?_) (fun h31 => ?_)
        · refine Gx.skipg rfl rfl rfl rfl rfl rfl ?_
          refine Gx.skipg rfl rfl rfl rfl rfl rfl ?_
          refine Gx.skipg rfl rfl rfl rfl rfl rfl ?_
          refine Gx.skipg rfl rfl rfl rfl rfl rfl ?_
          refine Gx.skipu rfl rfl rfl rfl rfl ?_
          refine Gx.skipu rfl rfl rfl rfl rfl ?_
          refine Gx.skipu rfl rfl rfl rfl rfl ?_
          refine Gx.skipu rfl rfl rfl rfl rfl ?_
          refine Gx.skipu rfl rfl rfl rfl rfl ?_
          refine Gx.skipu rfl rfl rfl rfl rfl ?_
          refine Gx.skipg rfl rfl rfl rfl rfl rfl ?_
          refine Gx.val rfl rfl rfl (val_pickT rfl rfl rfl) ?_
          refine Gx.val rfl rfl rfl (val_assign rfl rfl) ?_
          refine Gx.done ?_
          refine Gx.blkN ?_
          refine Gx.thenN ?_
          refine Gx.region ?_
          refine Gx.val rfl rfl rfl (val_add rfl rfl rfl (r := ((i + 1 : Nat) : Int)) (w64 (by omega) (by omega))) ?_
          refine Gx.val rfl rfl rfl (val_move rfl rfl) ?_
          refine Gx.done ?_
          refine Gx.thenN ?_
          refine Gx.drop 0 rfl ?_
          obtain ⟨k7, hk7⟩ := get_of_lt (xs := (codesB c (bs0 c.n) (cs ++ [bal]))) (k := i) (by omega)
          have hw32 := wkB_succ (cs := (cs ++ [bal])) (show (cs ++ [bal])[i]? = some x29 by rw [List.getElem?_append_left (by omega)]; exact hx29) hk7
          exact Gx.round (i + 1, true) ⟨by first | omega | (dsimp only; omega), by rw [hw32]; split <;> first | rfl | (rw [← hkn, h31])⟩ (by first | omega | (dsimp only; omega)) ((.cons rfl (.cons rfl (.cons rfl (.cons rfl (.cons rfl (.cons rfl (.cons rfl .nil)))))))) rfl
        · refine Gx.valg rfl rfl rfl rfl rfl (Val.cast (val_fieldAddr rfl Try.underlying34 rfl Try.ty3 rfl rfl) (v' := ptr b30 0) rfl) ?_
          refine Gx.valg rfl rfl rfl rfl rfl (val_load rfl Try.ty3 rfl rfl (cell_rec (k := 0) rfl rfl)) ?_
          refine Gx.valg rfl rfl rfl rfl rfl (val_eql rfl rfl rfl) ?_
          refine Gx.valg rfl rfl rfl rfl rfl (val_move rfl rfl) ?_
          refine Gx.cases (t := 97) rfl (fun h33 => ?_) (fun h33 => ?_)
          · refine Gx.valg rfl rfl rfl rfl rfl (Val.cast (val_fieldAddr rfl Try.underlying28 rfl Try.ty24 rfl rfl) (v' := ptr b22 0) rfl) ?_
            refine Gx.valg rfl rfl rfl rfl rfl (val_load rfl Try.ty24 rfl rfl (cell_rec (k := 1) rfl rfl)) ?_
            refine Gx.valg rfl rfl rfl rfl rfl (val_move rfl rfl) ?_
            obtain ⟨x34, hx34⟩ := get_of_lt (xs := (codesB c (bs0 c.n) (cs ++ [bal]))) (k := i) (by omega)
            refine Gx.valg rfl rfl rfl rfl rfl (val_ixa rfl Try.underlying24 Try.ty29 rfl rfl (j := i) (rfl) (reach_base hcv5 hx34)) ?_
            refine Gx.valg rfl rfl rfl rfl rfl (val_load rfl Try.ty29 rfl rfl (cell_base (i := 0) hcv5 hx34 rfl)) ?_
            refine Gx.valg rfl rfl rfl rfl rfl (val_eql rfl rfl rfl) ?_
            refine Gx.valg rfl rfl rfl rfl rfl (val_pickT rfl rfl rfl) ?_
            refine Gx.val rfl rfl rfl (val_pickF rfl rfl rfl) ?_
            refine Gx.val rfl rfl rfl (val_assign rfl rfl) ?_
            refine Gx.done ?_
            refine Gx.blkN ?_
            refine Gx.thenN ?_
            refine Gx.region ?_
            refine Gx.val rfl rfl rfl (val_add rfl rfl rfl (r := ((i + 1 : Nat) : Int)) (w64 (by omega) (by omega))) ?_
            refine Gx.val rfl rfl rfl (val_move rfl rfl) ?_
            refine Gx.done ?_
            refine Gx.thenN ?_
            refine Gx.drop 0 rfl ?_
            have hw35 := wkB_succ (cs := (cs ++ [bal])) (show (cs ++ [bal])[i]? = some x29 by rw [List.getElem?_append_left (by omega)]; exact hx29) hx34
            exact Gx.round (i + 1, decide (x34 = 0)) ⟨by first | omega | (dsimp only; omega), by rw [hw35]; by_cases q : x34 = 0 <;> first | (rw [if_pos ⟨by omega, q⟩]; exact decide_eq_true q) | (rw [if_neg (fun z => q z.2), ← hkn, h31]; exact decide_eq_false q)⟩ (by first | omega | (dsimp only; omega)) ((.cons rfl (.cons rfl (.cons rfl (.cons rfl (.cons rfl (.cons rfl (.cons rfl .nil)))))))) rfl
          · refine Gx.skipg rfl rfl rfl rfl rfl rfl ?_
            refine Gx.skipg rfl rfl rfl rfl rfl rfl ?_
            refine Gx.skipg rfl rfl rfl rfl rfl rfl ?_
            refine Gx.skipg rfl rfl rfl rfl rfl rfl ?_
            refine Gx.skipg rfl rfl rfl rfl rfl rfl ?_
            refine Gx.skipg rfl rfl rfl rfl rfl rfl ?_
            refine Gx.valg rfl rfl rfl rfl rfl (val_pickF rfl rfl rfl) ?_
            refine Gx.val rfl rfl rfl (val_pickF rfl rfl rfl) ?_
            refine Gx.val rfl rfl rfl (val_assign rfl rfl) ?_
            refine Gx.done ?_
            refine Gx.blkN ?_
            refine Gx.thenN ?_
            refine Gx.region ?_
            refine Gx.val rfl rfl rfl (val_add rfl rfl rfl (r := ((i + 1 : Nat) : Int)) (w64 (by omega) (by omega))) ?_
            refine Gx.val rfl rfl rfl (val_move rfl rfl) ?_
            refine Gx.done ?_
            refine Gx.thenN ?_
            refine Gx.drop 0 rfl ?_
            obtain ⟨k7, hk7⟩ := get_of_lt (xs := (codesB c (bs0 c.n) (cs ++ [bal]))) (k := i) (by omega)
            have hw36 := wkB_succ (cs := (cs ++ [bal])) (show (cs ++ [bal])[i]? = some x29 by rw [List.getElem?_append_left (by omega)]; exact hx29) hk7
            exact Gx.round (i + 1, false) ⟨by first | omega | (dsimp only; omega), by rw [hw36, if_neg (fun q => by have := q.1; omega), ← hkn, h31]⟩ (by first | omega | (dsimp only; omega)) ((.cons rfl (.cons rfl (.cons rfl (.cons rfl (.cons rfl (.cons rfl (.cons rfl .nil)))))))) rfl
      · refine Gx.exit ?_
        refine Gx.thenE ?_
        refine Gx.thenE ?_
        refine Gx.blkE ?_
        refine Gx.thenN ?_
        refine Gx.seq ?_
        obtain rfl : i = cs.length := by omega
        refine Gx.region ?_
        refine Gx.val rfl rfl rfl (val_move rfl rfl) ?_
        refine Gx.val rfl rfl rfl (val_move rfl rfl) ?_
        refine Gx.val rfl rfl rfl (val_eql rfl rfl rfl) ?_
        refine Gx.val rfl rfl rfl (val_move rfl rfl) ?_
        refine Gx.cases (t := 110) rfl (fun h37 => ?_) (fun h37 => ?_)
        · refine Gx.skipg rfl rfl rfl rfl rfl rfl ?_
          refine Gx.skipg rfl rfl rfl rfl rfl rfl ?_
          refine Gx.skipg rfl rfl rfl rfl rfl rfl ?_
          refine Gx.skipu rfl rfl rfl rfl rfl ?_
          refine Gx.skipu rfl rfl rfl rfl rfl ?_
          refine Gx.skipg rfl rfl rfl rfl rfl rfl ?_
          refine Gx.val rfl rfl rfl (val_pickT rfl rfl rfl) ?_
          refine Gx.val rfl rfl rfl (val_assign rfl rfl) ?_
          refine Gx.done ?_
          refine Gx.thenN ?_
          refine Gx.ret ?_
          refine Gx.ret1B hW10 Try.results4 rfl ?_
          first | rfl | (exact congrArg Value.bool (by rcases htl with h | ⟨h1, h2⟩ <;> first | (exfalso; have := hA h; omega) | (rw [hkn, h1]; rfl)))
        · refine Gx.valg rfl rfl rfl rfl rfl (val_move rfl rfl) ?_
          refine Gx.valg rfl rfl rfl rfl rfl (val_eql rfl rfl rfl) ?_
          refine Gx.valg rfl rfl rfl rfl rfl (val_move rfl rfl) ?_
          refine Gx.slot (t := 113) (v := .bool true) (look_decT rfl (by rcases htl with h | ⟨h1, h2⟩ <;> first | (exfalso; have := hA h; omega) | (have := hB h2; omega))) ?_
          refine Gx.valg rfl rfl rfl rfl rfl (val_move rfl rfl) ?_
          refine Gx.valg rfl rfl rfl rfl rfl (val_not rfl rfl) ?_
          refine Gx.valg rfl rfl rfl rfl rfl (val_pickT rfl rfl rfl) ?_
          refine Gx.val rfl rfl rfl (val_pickF rfl rfl rfl) ?_
          refine Gx.val rfl rfl rfl (val_assign rfl rfl) ?_
          refine Gx.done ?_
          refine Gx.thenN ?_
          refine Gx.ret ?_
          refine Gx.ret1B hW10 Try.results4 rfl ?_
          first | rfl | (exact congrArg Value.bool (by rcases htl with h | ⟨h1, h2⟩ <;> first | (exfalso; have := hA h; omega) | (rw [hkn, h1]; rfl)))

theorem total_any {W : World} {k f d z : Int} {sv : Value} {cs : List Mv} (hz0 : 0 ≤ z) (hz1 : z < 4294967296) (hs : SlS FM 6 W sv cs) :
    Calls Try.prog 4 #[.int .i64 k, .int .i64 f, .int .u32 z, .int .i64 d, sv] W fun e w' => e = .returned (.bool true) ∧ Below W.heap.size W w' := by
  obtain ⟨L, rfl⟩ : ∃ L : Nat, z = (L : Int) := ⟨z.toNat, by omega⟩
  have hL : L < 4294967296 := by omega
  by_cases hlg : 120 ≤ cs.length
  · exact total_long hs hlg
  by_cases h : Valid k f L d (cs ++ [bal])
  · obtain ⟨h1, h2, h3, h4, h5, h6, h7, h8⟩ := h
    obtain ⟨n, rfl⟩ : ∃ n : Nat, k = (n : Int) := ⟨k.toNat, by omega⟩
    obtain ⟨f', rfl⟩ : ∃ f' : Nat, f = (f' : Int) := ⟨f.toNat, by omega⟩
    obtain ⟨d', rfl⟩ : ∃ d' : Nat, d = (d' : Int) := ⟨d.toNat, by omega⟩
    rw [Int.toNat_natCast] at h5 h6
    exact total_yes (c := ⟨n, f', L, d'⟩) hs (by dsimp only; omega) (by dsimp only; omega) (by omega) (by dsimp only; omega) h6 hL (by dsimp only; omega)
  · exact total_bad hs (by omega) h
end Go.Proofs.Ytbfcfekpfgpfbaa
