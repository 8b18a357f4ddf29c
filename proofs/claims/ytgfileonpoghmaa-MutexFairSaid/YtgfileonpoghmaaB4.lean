/- Who asks ahead goes in ahead. The walk. No condition. -/
import Derived.Test.YtgfileonpoghmaaB3
import Derived.Test.YtgfileonpoghmaaM4
namespace Go.Proofs.Ytgfileonpoghmaa
open Go.RowKit
set_option linter.unusedVariables false
set_option linter.unusedSimpArgs false
set_option maxRecDepth 100000

theorem fair_no {W : World} {n i j : Int} {k : Nat} {sv : Value} {cs : List Mv} (hs : SlS FM 3 W sv cs) (hbad : n < 1 ∨ 6 < n ∨ 120 < (cs.length : Int)) (hk : k ≤ 255) :
    Calls Try.prog 5 #[.int .i64 n, sv, .int .u8 ((k : Nat) : Int), .int .i64 i, .int .i64 j] W fun e w' => e = .returned (.bool true) ∧ Below W.heap.size W w' := by
  have hk9 := hk
  have hkm := Nat.mod_lt k (show 0 < cs.length + 1 by omega)
  have hm := sls_bd hs
  refine calls_pure (Gx.enter (l := []) Try.func5 rfl Try.ntmps5 rfl (Sat.start W) ?_)
  refine Gx.know (m' := [(0, .int .i64 n), (1, sv), (2, .int .u8 ((k : Nat) : Int)), (3, .int .i64 i), (4, .int .i64 j)]) (.cons rfl (.cons rfl (.cons rfl (.cons rfl (.cons rfl .nil))))) ?_
  refine Gx.seq ?_
  refine Gx.region ?_
  refine Gx.val rfl rfl rfl (val_assign rfl rfl) ?_
  refine Gx.done ?_
  refine Gx.thenN ?_
  refine Gx.seq ?_
  refine Gx.region ?_
  refine Gx.val rfl rfl rfl (val_move rfl rfl) ?_
  refine Gx.val rfl rfl rfl (val_move rfl rfl) ?_
  refine Gx.val rfl rfl rfl (val_call (vs := [.int .i64 n, sv]) rfl Try.fn6 rfl (fun w H => play_no (hs.below H.below) (by omega))) ?_
  refine Gx.val rfl rfl rfl (val_move rfl rfl) ?_
  refine Gx.val rfl rfl rfl (val_extract rfl rfl rfl) ?_
  refine Gx.val rfl rfl rfl (val_extract rfl rfl rfl) ?_
  refine Gx.eff rfl rfl rfl (eff_alloc rfl Try.ty26 (vs := [.slice none 0 0, .slice none 0 0, .slice none 0 0, .int .i64 0]) rfl) ?_
  rintro _ _ ⟨b1, rfl, rfl⟩
  refine Gx.eff0 rfl rfl (eff_store rfl Try.ty26 rfl rfl (us := [.slice none 0 0, .slice none 0 0, .slice none 0 0, .int .i64 0]) rfl rfl rfl (k := 0) rfl (rfl) (vs' := [.slice none 0 0, .slice none 0 0, .slice none 0 0, .int .i64 0]) (rfl) (l' := [Hp.rec_ b1 [.slice none 0 0, .slice none 0 0, .slice none 0 0, .int .i64 0]]) rfl) ?_
  rintro _ _ rfl
  refine Gx.val rfl rfl rfl (val_assign rfl rfl) ?_
  refine Gx.done ?_
  refine Gx.thenN ?_
  refine Gx.seq ?_
  refine Gx.region ?_
  refine Gx.val rfl rfl rfl (val_move rfl rfl) ?_
  refine Gx.val rfl rfl rfl (val_conv rfl Try.underlying5 Try.underlying3 rfl (r := ((k : Nat) : Int)) (w64 rfl (by omega))) ?_
  refine Gx.val rfl rfl rfl (val_move rfl rfl) ?_
  refine Gx.val rfl rfl rfl (val_len rfl Try.underlying22 rfl (len_base hs)) ?_
  refine Gx.val rfl rfl rfl (val_add rfl rfl rfl (r := ((cs.length + 1 : Nat) : Int)) (w64 (by omega) (by omega))) ?_
  refine Gx.val rfl rfl rfl (val_rem rfl rfl rfl (r := ((k % (cs.length + 1) : Nat) : Int)) (by omega) (rfl)) ?_
  refine Gx.val rfl rfl rfl (val_assign rfl rfl) ?_
  refine Gx.done ?_
  refine Gx.thenN ?_
  refine Gx.seq ?_
  refine Gx.region ?_
  refine Gx.val rfl rfl rfl (val_move rfl rfl) ?_
  refine Gx.val rfl rfl rfl (val_move rfl rfl) ?_
  refine Gx.val rfl rfl rfl (val_move rfl rfl) ?_
  have hcut2 : SlS FM 3 W (sCut 3 0 (k % (cs.length + 1)) sv) (cs.take (k % (cs.length + 1))) := (hs).cut (lo := 0) (hi := k % (cs.length + 1)) (by omega) (by omega)
  refine Gx.val rfl rfl rfl (val_cutTo (up := k % (cs.length + 1)) rfl Try.underlying22 Try.ty34 rfl hs rfl (rfl) (by omega)) ?_
  refine Gx.eff rfl rfl rfl (eff_callE (vs := [.int .i64 n, sCut 3 0 (k % (cs.length + 1)) sv]) rfl Try.fn6 rfl (R := fun v => ∃ (a a' a'' : Option Addr) (m c m' c' m'' c'' : Nat) (z y : Int), v = .tuple #[.agg #[.slice a m c, .slice a' m' c', .slice a'' m'' c'', .int .i64 y], .int .i64 z]) (fun w H => play_some (hcut2.below H.below))) ?_
  rintro _ _ ⟨⟨a5, b6, d7, p8, q9, r10, s11, t12, u13, z3, y4, rfl⟩, rfl⟩
  refine Gx.val rfl rfl rfl (val_move rfl rfl) ?_
  refine Gx.val rfl rfl rfl (val_extract rfl rfl rfl) ?_
  refine Gx.val rfl rfl rfl (val_extract rfl rfl rfl) ?_
  refine Gx.eff rfl rfl rfl (eff_alloc rfl Try.ty26 (vs := [.slice none 0 0, .slice none 0 0, .slice none 0 0, .int .i64 0]) rfl) ?_
  rintro _ _ ⟨b14, rfl, rfl⟩
  refine Gx.eff0 rfl rfl (eff_store rfl Try.ty26 rfl rfl (us := [.slice a5 p8 q9, .slice b6 r10 s11, .slice d7 t12 u13, .int .i64 y4]) rfl rfl rfl (k := 0) rfl (rfl) (vs' := [.slice a5 p8 q9, .slice b6 r10 s11, .slice d7 t12 u13, .int .i64 y4]) (rfl) (l' := [Hp.rec_ b14 [.slice a5 p8 q9, .slice b6 r10 s11, .slice d7 t12 u13, .int .i64 y4], Hp.rec_ b1 [.slice none 0 0, .slice none 0 0, .slice none 0 0, .int .i64 0]]) rfl) ?_
  rintro _ _ rfl
  refine Gx.val rfl rfl rfl (val_assign rfl rfl) ?_
  refine Gx.done ?_
  refine Gx.thenN ?_
  refine Gx.seq ?_
  refine Gx.seq ?_
  refine Gx.region ?_
  refine Gx.val rfl rfl rfl (val_move rfl rfl) ?_
  refine Gx.val rfl rfl rfl (Val.cast (val_neq rfl rfl rfl) (v' := .bool true) rfl) ?_
  refine Gx.done ?_
  refine Gx.thenN ?_
  refine Gx.t rfl ?_
  refine Gx.seq ?_
  refine Gx.region ?_
  refine Gx.val rfl rfl rfl (val_assign rfl rfl) ?_
  refine Gx.done ?_
  refine Gx.thenN ?_
  refine Gx.ret ?_
  refine Gx.thenR ?_
  refine Gx.ret1 Try.results5 rfl ?_
  rfl

theorem fair_yes {W : World} {n k : Nat} {i j : Int} {sv : Value} {cs : List Mv} (h1n : 1 ≤ n) (h6n : n ≤ 6) (hcl : cs.length ≤ 120) (hk : k ≤ 255) (hs : SlS FM 3 W sv cs) :
    Calls Try.prog 5 #[.int .i64 ((n : Nat) : Int), sv, .int .u8 ((k : Nat) : Int), .int .i64 i, .int .i64 j] W fun e w' => e = .returned (.bool true) ∧ Below W.heap.size W w' := by
  have hk9 := hk
  have hkm := Nat.mod_lt k (show 0 < cs.length + 1 by omega)
  have hm := sls_bd hs
  have hlt : (cs.take (k % (cs.length + 1))).length = k % (cs.length + 1) := by rw [List.length_take]; omega
  refine calls_pure (Gx.enter (l := []) Try.func5 rfl Try.ntmps5 rfl (Sat.start W) ?_)
  refine Gx.know (m' := [(0, .int .i64 ((n : Nat) : Int)), (1, sv), (2, .int .u8 ((k : Nat) : Int)), (3, .int .i64 i), (4, .int .i64 j)]) (.cons rfl (.cons rfl (.cons rfl (.cons rfl (.cons rfl .nil))))) ?_
  refine Gx.seq ?_
  refine Gx.region ?_
  refine Gx.val rfl rfl rfl (val_assign rfl rfl) ?_
  refine Gx.done ?_
  refine Gx.thenN ?_
  refine Gx.seq ?_
  refine Gx.region ?_
  refine Gx.val rfl rfl rfl (val_move rfl rfl) ?_
  refine Gx.val rfl rfl rfl (val_move rfl rfl) ?_
  refine Gx.callB rfl rfl rfl (vs := [.int .i64 ((n : Nat) : Int), sv]) rfl Try.fn6 rfl (R := fun v w' => ∃ cv iv dv aw, v = .tuple #[.agg #[cv, iv, dv, .int .i64 ((aw : Nat) : Int)], .int .i64 0] ∧ SlS FZ 1 w' cv (codesM (ms0 n) cs) ∧ SlS FN 1 w' iv (stM (ms0 n) cs).ins ∧ SlS FN 1 w' dv (inL (stM (ms0 n) cs).ps n) ∧ (aw = 0 → ∀ kw, (stM (ms0 n) cs).q kw = [])) (fun w H => play_ok h1n h6n (hs.below H.below) (by omega)) ?_
  rintro _ W5 ⟨cv1, iv2, dv3, aw4, rfl, hcv1, hiv2, hdv3, haw4⟩ H6
  have hW7 := H6.below
  have hs8 := hs.below H6.below
  have hclcv1 : (codesM (ms0 n) cs).length = (cs).length := codesM_len ..
  have hilcv1 := ((BdM.zero n).run cs).ins
  have hdlcv1 := inL_len (stM (ms0 n) cs).ps n
  obtain ⟨a9, m10, c11, rfl⟩ := hcv1.isS
  obtain ⟨a12, m13, c14, rfl⟩ := hiv2.isS
  obtain ⟨a15, m16, c17, rfl⟩ := hdv3.isS
  refine Gx.val rfl rfl rfl (val_move rfl rfl) ?_
  refine Gx.val rfl rfl rfl (val_extract rfl rfl rfl) ?_
  refine Gx.val rfl rfl rfl (val_extract rfl rfl rfl) ?_
  refine Gx.eff rfl rfl rfl (eff_alloc rfl Try.ty26 (vs := [.slice none 0 0, .slice none 0 0, .slice none 0 0, .int .i64 0]) rfl) ?_
  rintro _ _ ⟨b18, rfl, rfl⟩
  refine Gx.eff0 rfl rfl (eff_store rfl Try.ty26 rfl rfl (us := [.slice a9 m10 c11, .slice a12 m13 c14, .slice a15 m16 c17, .int .i64 ((aw4 : Nat) : Int)]) rfl rfl rfl (k := 0) rfl (rfl) (vs' := [.slice a9 m10 c11, .slice a12 m13 c14, .slice a15 m16 c17, .int .i64 ((aw4 : Nat) : Int)]) (rfl) (l' := [Hp.rec_ b18 [.slice a9 m10 c11, .slice a12 m13 c14, .slice a15 m16 c17, .int .i64 ((aw4 : Nat) : Int)]]) rfl) ?_
  rintro _ _ rfl
  refine Gx.val rfl rfl rfl (val_assign rfl rfl) ?_
  refine Gx.done ?_
  refine Gx.thenN ?_
  refine Gx.seq ?_
  refine Gx.region ?_
  refine Gx.val rfl rfl rfl (val_move rfl rfl) ?_
  refine Gx.val rfl rfl rfl (val_conv rfl Try.underlying5 Try.underlying3 rfl (r := ((k : Nat) : Int)) (w64 rfl (by omega))) ?_
  refine Gx.val rfl rfl rfl (val_move rfl rfl) ?_
  refine Gx.val rfl rfl rfl (val_len rfl Try.underlying22 rfl (len_base hs8)) ?_
  refine Gx.val rfl rfl rfl (val_add rfl rfl rfl (r := ((cs.length + 1 : Nat) : Int)) (w64 (by omega) (by omega))) ?_
  refine Gx.val rfl rfl rfl (val_rem rfl rfl rfl (r := ((k % (cs.length + 1) : Nat) : Int)) (by omega) (rfl)) ?_
  refine Gx.val rfl rfl rfl (val_assign rfl rfl) ?_
  refine Gx.done ?_
  refine Gx.thenN ?_
  refine Gx.seq ?_
  refine Gx.region ?_
  refine Gx.val rfl rfl rfl (val_move rfl rfl) ?_
  refine Gx.val rfl rfl rfl (val_move rfl rfl) ?_
  refine Gx.val rfl rfl rfl (val_move rfl rfl) ?_
  have hcut19 : SlS FM 3 W5 (sCut 3 0 (k % (cs.length + 1)) sv) (cs.take (k % (cs.length + 1))) := (hs8).cut (lo := 0) (hi := k % (cs.length + 1)) (by omega) (by omega)
  refine Gx.val rfl rfl rfl (val_cutTo (up := k % (cs.length + 1)) rfl Try.underlying22 Try.ty34 rfl hs8 rfl (rfl) (by omega)) ?_
  refine Gx.callB rfl rfl rfl (vs := [.int .i64 ((n : Nat) : Int), sCut 3 0 (k % (cs.length + 1)) sv]) rfl Try.fn6 rfl (R := fun v w' => ∃ cv iv dv aw, v = .tuple #[.agg #[cv, iv, dv, .int .i64 ((aw : Nat) : Int)], .int .i64 0] ∧ SlS FZ 1 w' cv (codesM (ms0 n) (cs.take (k % (cs.length + 1)))) ∧ SlS FN 1 w' iv (stM (ms0 n) (cs.take (k % (cs.length + 1)))).ins ∧ SlS FN 1 w' dv (inL (stM (ms0 n) (cs.take (k % (cs.length + 1)))).ps n) ∧ (aw = 0 → ∀ kw, (stM (ms0 n) (cs.take (k % (cs.length + 1)))).q kw = [])) (fun w H => play_ok h1n h6n (hcut19.below H.below) (by rw [List.length_take]; omega)) ?_
  rintro _ W24 ⟨cv20, iv21, dv22, aw23, rfl, hcv20, hiv21, hdv22, haw23⟩ H25
  have hW26 := hW7.trans (H25.below.mono hW7.size)
  have hs27 := hs8.below H25.below
  have hs28 := hcv1.below H25.below
  have hs29 := hiv2.below H25.below
  have hs30 := hdv3.below H25.below
  have hs31 := hcut19.below H25.below
  have hb32 := (H25.at_ (k := 0) rfl).rec_.1
  have hc33 := (H25.at_ (k := 0) rfl).cell 0 (u := .slice a9 m10 c11) rfl
  have hc34 := (H25.at_ (k := 0) rfl).cell 1 (u := .slice a12 m13 c14) rfl
  have hc35 := (H25.at_ (k := 0) rfl).cell 2 (u := .slice a15 m16 c17) rfl
  have hc36 := (H25.at_ (k := 0) rfl).cell 3 (u := .int .i64 ((aw4 : Nat) : Int)) rfl
  have hclcv20 : (codesM (ms0 n) (cs.take (k % (cs.length + 1)))).length = ((cs.take (k % (cs.length + 1)))).length := codesM_len ..
  have hilcv20 := ((BdM.zero n).run (cs.take (k % (cs.length + 1)))).ins
  have hdlcv20 := inL_len (stM (ms0 n) (cs.take (k % (cs.length + 1)))).ps n
  obtain ⟨a37, m38, c39, rfl⟩ := hcv20.isS
  obtain ⟨a40, m41, c42, rfl⟩ := hiv21.isS
  obtain ⟨a43, m44, c45, rfl⟩ := hdv22.isS
  refine Gx.val rfl rfl rfl (val_move rfl rfl) ?_
  refine Gx.val rfl rfl rfl (val_extract rfl rfl rfl) ?_
  refine Gx.val rfl rfl rfl (val_extract rfl rfl rfl) ?_
  refine Gx.eff rfl rfl rfl (eff_alloc rfl Try.ty26 (vs := [.slice none 0 0, .slice none 0 0, .slice none 0 0, .int .i64 0]) rfl) ?_
  rintro _ _ ⟨b46, rfl, rfl⟩
  refine Gx.eff0 rfl rfl (eff_store rfl Try.ty26 rfl rfl (us := [.slice a37 m38 c39, .slice a40 m41 c42, .slice a43 m44 c45, .int .i64 ((aw23 : Nat) : Int)]) rfl rfl rfl (k := 0) rfl (rfl) (vs' := [.slice a37 m38 c39, .slice a40 m41 c42, .slice a43 m44 c45, .int .i64 ((aw23 : Nat) : Int)]) (rfl) (l' := [Hp.rec_ b46 [.slice a37 m38 c39, .slice a40 m41 c42, .slice a43 m44 c45, .int .i64 ((aw23 : Nat) : Int)]]) rfl) ?_
  rintro _ _ rfl
  refine Gx.val rfl rfl rfl (val_assign rfl rfl) ?_
  refine Gx.done ?_
  refine Gx.thenN ?_
  refine Gx.seq ?_
  refine Gx.seq ?_
  refine Gx.region ?_
  refine Gx.val rfl rfl rfl (val_move rfl rfl) ?_
  refine Gx.val rfl rfl rfl (Val.cast (val_neq rfl rfl rfl) (v' := .bool false) rfl) ?_
  refine Gx.done ?_
  refine Gx.thenN ?_
  refine Gx.f rfl ?_
  refine Gx.skip ?_
  refine Gx.thenN ?_
  refine Gx.seq ?_
  refine Gx.seq ?_
  refine Gx.region ?_
  refine Gx.val rfl rfl rfl (val_move rfl rfl) ?_
  refine Gx.val rfl rfl rfl (Val.cast (val_neq rfl rfl rfl) (v' := .bool false) rfl) ?_
  refine Gx.val rfl rfl rfl (val_move rfl rfl) ?_
  refine Gx.valg rfl rfl rfl rfl rfl (Val.cast (val_fieldAddr rfl Try.underlying26 rfl Try.ty23 rfl rfl) (v' := ptr b18 0) rfl) ?_
  refine Gx.valg rfl rfl rfl rfl rfl (val_load rfl Try.ty23 rfl rfl (cell_old hb32 hc33)) ?_
  refine Gx.valg rfl rfl rfl rfl rfl (val_len rfl Try.underlying23 rfl (len_base hs28)) ?_
  refine Gx.valg rfl rfl rfl rfl rfl (val_move rfl rfl) ?_
  refine Gx.valg rfl rfl rfl rfl rfl (val_len rfl Try.underlying22 rfl (len_base hs27)) ?_
  refine Gx.valg rfl rfl rfl rfl rfl (val_neq rfl rfl rfl) ?_
  refine Gx.val rfl rfl rfl (val_pickF rfl rfl rfl) ?_
  refine Gx.val rfl rfl rfl (val_move rfl rfl) ?_
  refine Gx.slot (t := 52) (v := .bool false) (look_decF rfl (by omega)) ?_
  refine Gx.valg rfl rfl rfl rfl rfl (Val.cast (val_fieldAddr rfl Try.underlying26 rfl Try.ty23 rfl rfl) (v' := ptr b46 0) rfl) ?_
  refine Gx.valg rfl rfl rfl rfl rfl (val_load rfl Try.ty23 rfl rfl (cell_rec (k := 0) rfl rfl)) ?_
  refine Gx.valg rfl rfl rfl rfl rfl (val_len rfl Try.underlying23 rfl (len_base hcv20)) ?_
  refine Gx.valg rfl rfl rfl rfl rfl (val_move rfl rfl) ?_
  refine Gx.valg rfl rfl rfl rfl rfl (val_neq rfl rfl rfl) ?_
  refine Gx.val rfl rfl rfl (val_pickF rfl rfl rfl) ?_
  refine Gx.val rfl rfl rfl (val_move rfl rfl) ?_
  refine Gx.slot (t := 59) (v := .bool false) (look_decF rfl (by omega)) ?_
  refine Gx.valg rfl rfl rfl rfl rfl (Val.cast (val_fieldAddr rfl Try.underlying26 rfl Try.ty24 rfl rfl) (v' := ptr b46 1) rfl) ?_
  refine Gx.valg rfl rfl rfl rfl rfl (val_load rfl Try.ty24 rfl rfl (cell_rec (k := 0) rfl rfl)) ?_
  refine Gx.valg rfl rfl rfl rfl rfl (Val.cast (val_fieldAddr rfl Try.underlying26 rfl Try.ty24 rfl rfl) (v' := ptr b18 1) rfl) ?_
  refine Gx.valg rfl rfl rfl rfl rfl (val_load rfl Try.ty24 rfl rfl (cell_old hb32 hc34)) ?_
  refine Gx.valg rfl rfl rfl rfl rfl (val_call (vs := [.slice a40 m41 c42, .slice a12 m13 c14]) rfl Try.fn8 rfl (fun w H => begins_yes (hiv21.below H.below) (hs29.below H.below) (ins_take n cs _))) ?_
  refine Gx.valg rfl rfl rfl rfl rfl (Val.cast (val_not rfl rfl) (v' := .bool false) rfl) ?_
  refine Gx.val rfl rfl rfl (val_pickF rfl rfl rfl) ?_
  refine Gx.done ?_
  refine Gx.thenN ?_
  refine Gx.f rfl ?_
  refine Gx.skip ?_
  refine Gx.thenN ?_
  refine Gx.seq ?_
  refine Gx.regionO (fun j => false) 5 [0, 1, 2, 3, 4] (fun _ => [Hp.rec_ b46 [.slice a37 m38 c39, .slice a40 m41 c42, .slice a43 m44 c45, .int .i64 ((aw23 : Nat) : Int)]]) Try.mixed (by kernel_rfl) rfl ?_
  refine Gw.val rfl rfl rfl rfl rfl (fun us => val_move rfl rfl) ?_
  refine Gw.val rfl rfl rfl rfl rfl (fun us => val_move rfl rfl) ?_
  have hcut47 : SlS FM 3 W24 (sCut 3 0 (k % (cs.length + 1)) sv) (cs.take (k % (cs.length + 1))) := (hs27).cut (lo := 0) (hi := k % (cs.length + 1)) (by omega) (by omega)
  refine Gw.val rfl rfl rfl rfl rfl (fun us => val_cutTo (up := k % (cs.length + 1)) rfl Try.underlying22 Try.ty34 rfl hs27 rfl (rfl) (by omega)) ?_
  refine Gw.val rfl rfl rfl rfl rfl (fun us => Val.cast (val_fieldAddr rfl Try.underlying26 rfl Try.ty23 rfl rfl) (v' := ptr b46 0) rfl) ?_
  refine Gw.val0 rfl rfl rfl (by kernel_rfl) rfl rfl (val_load rfl Try.ty23 rfl rfl (cell_rec (k := 0) rfl rfl)) ?_
  refine Gw.done ?_
  refine Gx.norm (l' := [Hp.rec_ b46 [.slice a37 m38 c39, .slice a40 m41 c42, .slice a43 m44 c45, .int .i64 ((aw23 : Nat) : Int)]]) rfl ?_
  refine Gx.callB rfl rfl rfl (vs := [sCut 3 0 (k % (cs.length + 1)) sv, .slice a37 m38 c39]) rfl Try.fn9 rfl (R := fun v w' => SlS FI 1 w' v (askI (cs.take (k % (cs.length + 1))) (codesM (ms0 n) (cs.take (k % (cs.length + 1)))) ((cs.take (k % (cs.length + 1)))).length)) (fun w H => asking_any (hcut47.below H.below) (hcv20.below H.below) (codesM_len ..) (by first | omega | (rw [List.length_take]; omega))) ?_
  rintro lv48 W49 hlv48 H50
  have hW51 := hW26.trans (H50.below.mono hW26.size)
  have hs52 := hs27.below H50.below
  have hs53 := hs28.below H50.below
  have hs54 := hs29.below H50.below
  have hs55 := hs30.below H50.below
  have hs56 := hcut47.below H50.below
  have hs57 := hcv20.below H50.below
  have hs58 := hiv21.below H50.below
  have hs59 := hdv22.below H50.below
  have hb60 := Nat.lt_of_lt_of_le hb32 H50.size
  have hc61 := (H50.below.cell (p := ⟨b18, 0, none⟩) hb32).trans hc33
  have hb62 := Nat.lt_of_lt_of_le hb32 H50.size
  have hc63 := (H50.below.cell (p := ⟨b18, 1, none⟩) hb32).trans hc34
  have hb64 := Nat.lt_of_lt_of_le hb32 H50.size
  have hc65 := (H50.below.cell (p := ⟨b18, 2, none⟩) hb32).trans hc35
  have hb66 := Nat.lt_of_lt_of_le hb32 H50.size
  have hc67 := (H50.below.cell (p := ⟨b18, 3, none⟩) hb32).trans hc36
  have hb68 := (H50.at_ (k := 0) rfl).rec_.1
  have hc69 := (H50.at_ (k := 0) rfl).cell 0 (u := .slice a37 m38 c39) rfl
  have hc70 := (H50.at_ (k := 0) rfl).cell 1 (u := .slice a40 m41 c42) rfl
  have hc71 := (H50.at_ (k := 0) rfl).cell 2 (u := .slice a43 m44 c45) rfl
  have hc72 := (H50.at_ (k := 0) rfl).cell 3 (u := .int .i64 ((aw23 : Nat) : Int)) rfl
  have haklv48 := askI_len (cs.take (k % (cs.length + 1))) (codesM (ms0 n) (cs.take (k % (cs.length + 1)))) ((cs.take (k % (cs.length + 1)))).length
  refine Gx.val rfl rfl rfl (val_assign rfl rfl) ?_
  refine Gx.done ?_
  refine Gx.thenN ?_
  refine Gx.seq ?_
  refine Gx.seq ?_
  refine Gx.region ?_
  refine Gx.val rfl rfl rfl (Val.cast (val_fieldAddr rfl Try.underlying26 rfl Try.ty3 rfl rfl) (v' := ptr b46 3) rfl) ?_
  refine Gx.val rfl rfl rfl (val_load rfl Try.ty3 rfl rfl (cell_old hb68 hc72)) ?_
  refine Gx.val rfl rfl rfl (val_gtr rfl rfl rfl) ?_
  refine Gx.val rfl rfl rfl (val_move rfl rfl) ?_
  refine Gx.cases (t := 76) rfl (fun h73 => ?_) (fun h73 => ?_)
  · refine Gx.skipg rfl rfl rfl rfl rfl rfl ?_
    refine Gx.skipg rfl rfl rfl rfl rfl rfl ?_
    refine Gx.skipg rfl rfl rfl rfl rfl rfl ?_
    refine Gx.skipg rfl rfl rfl rfl rfl rfl ?_
    refine Gx.val rfl rfl rfl (val_pickT rfl rfl rfl) ?_
    refine Gx.val rfl rfl rfl (val_move rfl rfl) ?_
    refine Gx.skipg rfl rfl rfl rfl rfl rfl ?_
    refine Gx.skipg rfl rfl rfl rfl rfl rfl ?_
    refine Gx.skipg rfl rfl rfl rfl rfl rfl ?_
    refine Gx.skipg rfl rfl rfl rfl rfl rfl ?_
    refine Gx.skipg rfl rfl rfl rfl rfl rfl ?_
    refine Gx.val rfl rfl rfl (val_pickT rfl rfl rfl) ?_
    refine Gx.val rfl rfl rfl (val_move rfl rfl) ?_
    refine Gx.skipg rfl rfl rfl rfl rfl rfl ?_
    refine Gx.skipg rfl rfl rfl rfl rfl rfl ?_
    refine Gx.skipg rfl rfl rfl rfl rfl rfl ?_
    refine Gx.skipg rfl rfl rfl rfl rfl rfl ?_
    refine Gx.val rfl rfl rfl (val_pickT rfl rfl rfl) ?_
    refine Gx.done ?_
    refine Gx.thenN ?_
    refine Gx.t rfl ?_
    refine Gx.seq ?_
    refine Gx.region ?_
    refine Gx.val rfl rfl rfl (val_assign rfl rfl) ?_
    refine Gx.done ?_
    refine Gx.thenN ?_
    refine Gx.ret ?_
    refine Gx.thenR ?_
    refine Gx.ret1B hW51 Try.results5 rfl ?_
    rfl
  · refine Gx.valg rfl rfl rfl rfl rfl (val_move rfl rfl) ?_
    refine Gx.valg rfl rfl rfl rfl rfl (val_move rfl rfl) ?_
    refine Gx.valg rfl rfl rfl rfl rfl (val_call (vs := [lv48, .int .i64 i]) rfl Try.fn10 rfl (fun w H => pos_int (hlv48.below H.below) i)) ?_
    refine Gx.valg rfl rfl rfl rfl rfl (val_lss rfl rfl rfl) ?_
    refine Gx.val rfl rfl rfl (val_pickF rfl rfl rfl) ?_
    refine Gx.val rfl rfl rfl (val_move rfl rfl) ?_
    refine Gx.cases (t := 82) rfl (fun h74 => ?_) (fun h74 => ?_)
    · refine Gx.skipg rfl rfl rfl rfl rfl rfl ?_
      refine Gx.skipg rfl rfl rfl rfl rfl rfl ?_
      refine Gx.skipg rfl rfl rfl rfl rfl rfl ?_
      refine Gx.skipg rfl rfl rfl rfl rfl rfl ?_
      refine Gx.skipg rfl rfl rfl rfl rfl rfl ?_
      refine Gx.val rfl rfl rfl (val_pickT rfl rfl rfl) ?_
      refine Gx.val rfl rfl rfl (val_move rfl rfl) ?_
      refine Gx.skipg rfl rfl rfl rfl rfl rfl ?_
      refine Gx.skipg rfl rfl rfl rfl rfl rfl ?_
      refine Gx.skipg rfl rfl rfl rfl rfl rfl ?_
      refine Gx.skipg rfl rfl rfl rfl rfl rfl ?_
      refine Gx.val rfl rfl rfl (val_pickT rfl rfl rfl) ?_
      refine Gx.done ?_
      refine Gx.thenN ?_
      refine Gx.t rfl ?_
      refine Gx.seq ?_
      refine Gx.region ?_
      refine Gx.val rfl rfl rfl (val_assign rfl rfl) ?_
      refine Gx.done ?_
      refine Gx.thenN ?_
      refine Gx.ret ?_
      refine Gx.thenR ?_
      refine Gx.ret1B hW51 Try.results5 rfl ?_
      rfl
    · refine Gx.valg rfl rfl rfl rfl rfl (Val.cast (val_fieldAddr rfl Try.underlying26 rfl Try.ty24 rfl rfl) (v' := ptr b46 2) rfl) ?_
      refine Gx.valg rfl rfl rfl rfl rfl (val_load rfl Try.ty24 rfl rfl (cell_old hb68 hc71)) ?_
      refine Gx.valg rfl rfl rfl rfl rfl (val_move rfl rfl) ?_
      refine Gx.valg rfl rfl rfl rfl rfl (val_call (vs := [.slice a43 m44 c45, .int .i64 i]) rfl Try.fn10 rfl (fun w H => pos_nat (hs59.below H.below) i)) ?_
      refine Gx.valg rfl rfl rfl rfl rfl (val_geq rfl rfl rfl) ?_
      refine Gx.val rfl rfl rfl (val_pickF rfl rfl rfl) ?_
      refine Gx.val rfl rfl rfl (val_move rfl rfl) ?_
      refine Gx.cases (t := 89) rfl (fun h75 => ?_) (fun h75 => ?_)
      · refine Gx.skipg rfl rfl rfl rfl rfl rfl ?_
        refine Gx.skipg rfl rfl rfl rfl rfl rfl ?_
        refine Gx.skipg rfl rfl rfl rfl rfl rfl ?_
        refine Gx.skipg rfl rfl rfl rfl rfl rfl ?_
        refine Gx.val rfl rfl rfl (val_pickT rfl rfl rfl) ?_
        refine Gx.done ?_
        refine Gx.thenN ?_
        refine Gx.t rfl ?_
        refine Gx.seq ?_
        refine Gx.region ?_
        refine Gx.val rfl rfl rfl (val_assign rfl rfl) ?_
        refine Gx.done ?_
        refine Gx.thenN ?_
        refine Gx.ret ?_
        refine Gx.thenR ?_
        refine Gx.ret1B hW51 Try.results5 rfl ?_
        rfl
      · refine Gx.valg rfl rfl rfl rfl rfl (val_move rfl rfl) ?_
        refine Gx.valg rfl rfl rfl rfl rfl (val_move rfl rfl) ?_
        refine Gx.valg rfl rfl rfl rfl rfl (val_call (vs := [lv48, .int .i64 j]) rfl Try.fn10 rfl (fun w H => pos_int (hlv48.below H.below) j)) ?_
        refine Gx.valg rfl rfl rfl rfl rfl (val_geq rfl rfl rfl) ?_
        refine Gx.val rfl rfl rfl (val_pickF rfl rfl rfl) ?_
        refine Gx.done ?_
        refine Gx.thenN ?_
        refine Gx.dec rfl (fun h76 => ?_) (fun h76 => ?_)
        · refine Gx.seq ?_
          refine Gx.region ?_
          refine Gx.val rfl rfl rfl (val_assign rfl rfl) ?_
          refine Gx.done ?_
          refine Gx.thenN ?_
          refine Gx.ret ?_
          refine Gx.thenR ?_
          refine Gx.ret1B hW51 Try.results5 rfl ?_
          rfl
        · refine Gx.skip ?_
          refine Gx.thenN ?_
          refine Gx.seq ?_
          have hpf := ins_take n cs (k % (cs.length + 1))
          have hpl := (prefix_take hpf).1
          have hfair := fair (i := i) (j := j) h6n cs (k % (cs.length + 1)) (haw23 (by omega)) h74 h75 h76
          refine Gx.region ?_
          refine Gx.val rfl rfl rfl (Val.cast (val_fieldAddr rfl Try.underlying26 rfl Try.ty24 rfl rfl) (v' := ptr b18 1) rfl) ?_
          refine Gx.val rfl rfl rfl (val_load rfl Try.ty24 rfl rfl (cell_old hb62 hc63)) ?_
          refine Gx.val rfl rfl rfl (Val.cast (val_fieldAddr rfl Try.underlying26 rfl Try.ty24 rfl rfl) (v' := ptr b46 1) rfl) ?_
          refine Gx.val rfl rfl rfl (val_load rfl Try.ty24 rfl rfl (cell_old hb68 hc70)) ?_
          refine Gx.val rfl rfl rfl (val_len rfl Try.underlying24 rfl (len_base hs58)) ?_
          have hcut77 : SlS FN 1 W49 (sCut 1 (((stM (ms0 n) (cs.take (k % (cs.length + 1)))).ins).length) ((stM (ms0 n) cs).ins.length) (.slice a12 m13 c14)) (((stM (ms0 n) cs).ins).drop (((stM (ms0 n) (cs.take (k % (cs.length + 1)))).ins).length)) := by have q := (hs54).cut (lo := ((stM (ms0 n) (cs.take (k % (cs.length + 1)))).ins).length) (hi := (stM (ms0 n) cs).ins.length) (by omega) (by omega); rwa [List.take_length] at q
          refine Gx.val rfl rfl rfl (val_cutFrom (lo := ((stM (ms0 n) (cs.take (k % (cs.length + 1)))).ins).length) rfl Try.underlying24 Try.ty3 rfl hs54 rfl (rfl) (by omega)) ?_
          refine Gx.val rfl rfl rfl (val_assign rfl rfl) ?_
          refine Gx.done ?_
          refine Gx.thenN ?_
          refine Gx.seq ?_
          refine Gx.region ?_
          refine Gx.val rfl rfl rfl (val_move rfl rfl) ?_
          refine Gx.val rfl rfl rfl (val_move rfl rfl) ?_
          refine Gx.val rfl rfl rfl (val_call (vs := [sCut 1 (((stM (ms0 n) (cs.take (k % (cs.length + 1)))).ins).length) ((stM (ms0 n) cs).ins.length) (.slice a12 m13 c14), .int .i64 i]) rfl Try.fn10 rfl (fun w H => pos_nat (hcut77.below H.below) i)) ?_
          refine Gx.val rfl rfl rfl (val_assign rfl rfl) ?_
          refine Gx.done ?_
          refine Gx.thenN ?_
          refine Gx.seq ?_
          refine Gx.region ?_
          refine Gx.val rfl rfl rfl (val_move rfl rfl) ?_
          refine Gx.val rfl rfl rfl (val_move rfl rfl) ?_
          refine Gx.val rfl rfl rfl (val_call (vs := [sCut 1 (((stM (ms0 n) (cs.take (k % (cs.length + 1)))).ins).length) ((stM (ms0 n) cs).ins.length) (.slice a12 m13 c14), .int .i64 j]) rfl Try.fn10 rfl (fun w H => pos_nat (hcut77.below H.below) j)) ?_
          refine Gx.val rfl rfl rfl (val_assign rfl rfl) ?_
          refine Gx.done ?_
          refine Gx.thenN ?_
          refine Gx.seq ?_
          refine Gx.region ?_
          refine Gx.val rfl rfl rfl (val_move rfl rfl) ?_
          refine Gx.val rfl rfl rfl (val_lss rfl rfl rfl) ?_
          refine Gx.val rfl rfl rfl (val_move rfl rfl) ?_
          refine Gx.cases (t := 109) rfl (fun h78 => ?_) (fun h78 => ?_)
          · refine Gx.skipg rfl rfl rfl rfl rfl rfl ?_
            refine Gx.skipg rfl rfl rfl rfl rfl rfl ?_
            refine Gx.skipg rfl rfl rfl rfl rfl rfl ?_
            refine Gx.skipu rfl rfl rfl rfl rfl ?_
            refine Gx.skipu rfl rfl rfl rfl rfl ?_
            refine Gx.skipu rfl rfl rfl rfl rfl ?_
            refine Gx.skipg rfl rfl rfl rfl rfl rfl ?_
            refine Gx.val rfl rfl rfl (val_pickT rfl rfl rfl) ?_
            refine Gx.val rfl rfl rfl (val_assign rfl rfl) ?_
            refine Gx.done ?_
            refine Gx.thenN ?_
            refine Gx.ret ?_
            refine Gx.ret1B hW51 Try.results5 rfl ?_
            rfl
          · refine Gx.valg rfl rfl rfl rfl rfl (val_move rfl rfl) ?_
            refine Gx.valg rfl rfl rfl rfl rfl (val_geq rfl rfl rfl) ?_
            refine Gx.valg rfl rfl rfl rfl rfl (val_move rfl rfl) ?_
            refine Gx.cases (t := 112) rfl (fun h79 => ?_) (fun h79 => ?_)
            · refine Gx.valg rfl rfl rfl rfl rfl (val_move rfl rfl) ?_
              refine Gx.valg rfl rfl rfl rfl rfl (val_move rfl rfl) ?_
              refine Gx.valg rfl rfl rfl rfl rfl (val_lss rfl rfl rfl) ?_
              refine Gx.valg rfl rfl rfl rfl rfl (val_pickT rfl rfl rfl) ?_
              refine Gx.val rfl rfl rfl (val_pickF rfl rfl rfl) ?_
              refine Gx.val rfl rfl rfl (val_assign rfl rfl) ?_
              refine Gx.done ?_
              refine Gx.thenN ?_
              refine Gx.ret ?_
              refine Gx.ret1B hW51 Try.results5 rfl ?_
              exact congrArg Value.bool (decide_eq_true (by omega))
            · refine Gx.skipg rfl rfl rfl rfl rfl rfl ?_
              refine Gx.skipg rfl rfl rfl rfl rfl rfl ?_
              refine Gx.skipg rfl rfl rfl rfl rfl rfl ?_
              refine Gx.valg rfl rfl rfl rfl rfl (val_pickF rfl rfl rfl) ?_
              refine Gx.val rfl rfl rfl (val_pickF rfl rfl rfl) ?_
              refine Gx.val rfl rfl rfl (val_assign rfl rfl) ?_
              refine Gx.done ?_
              refine Gx.thenN ?_
              refine Gx.ret ?_
              exfalso; omega

theorem fair_any {W : World} {n z i j : Int} {sv : Value} {cs : List Mv} (h0 : 0 ≤ z) (h255 : z ≤ 255) (hs : SlS FM 3 W sv cs) :
    Calls Try.prog 5 #[.int .i64 n, sv, .int .u8 z, .int .i64 i, .int .i64 j] W fun e w' => e = .returned (.bool true) ∧ Below W.heap.size W w' := by
  obtain ⟨k, rfl⟩ : ∃ k : Nat, z = (k : Int) := ⟨z.toNat, by omega⟩
  by_cases h : n < 1 ∨ 6 < n ∨ 120 < (cs.length : Int)
  · exact fair_no hs h (by omega)
  · obtain ⟨m, rfl⟩ : ∃ m : Nat, n = (m : Int) := ⟨n.toNat, by omega⟩
    exact fair_yes (by omega) (by omega) (by omega) (by omega) hs
end Go.Proofs.Ytgfileonpoghmaa
