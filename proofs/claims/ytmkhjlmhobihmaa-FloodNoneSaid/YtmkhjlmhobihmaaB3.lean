/- No round at all; whoever crashed unheard. The walk. No condition. -/
import Derived.Test.YtmkhjlmhobihmaaB2
namespace Go.Proofs.Ytmkhjlmhobihmaa
open Go.RowKit
set_option linter.unusedVariables false
set_option linter.unusedSimpArgs false
set_option maxRecDepth 100000

theorem sls_of_rec {W w : World} {b : Nat} {y : Int} {R : Hp} (H : Sat W w (Hp.rec_ b [.int .i64 y] * R)) : SlS FI 1 w (.slice (some ⟨b, 0, none⟩) 1 1) [y] :=
  (H.mono (own_of_rec (f := FI) (xs := [y]) FI_len rfl)).sls (by simp)
theorem none_no {W : World} {vs : Value} {vals : List Int} (hv : SlS FI 1 W vs vals) {r wh : Int} (hbad : vals.length = 0 ∨ 6 < vals.length) :
    Calls Try.prog 5 #[vs, .int .i64 r, .int .i64 wh] W fun e w' => e = .returned (.bool true) ∧ Below W.heap.size W w' := by
  have m2 := sls_bd hv
  refine calls_pure (Gx.enter (l := []) Try.func5 rfl Try.ntmps5 rfl (Sat.start W) ?_)
  refine Gx.know (m' := [(0, vs), (1, .int .i64 r), (2, .int .i64 wh)]) (.cons rfl (.cons rfl (.cons rfl .nil))) ?_
  refine Gx.seq ?_
  refine Gx.region ?_
  refine Gx.val rfl rfl rfl (val_assign rfl rfl) ?_
  refine Gx.done ?_
  refine Gx.thenN ?_
  refine Gx.seq ?_
  refine Gx.region ?_
  refine Gx.val rfl rfl rfl (val_move rfl rfl) ?_
  refine Gx.val rfl rfl rfl (val_call (vs := [vs, .int .i64 0, .slice none 0 0]) rfl Try.fn6 rfl (fun w H => play_no1 (hv.below H.below) (sls_nil FC _ _) (by simp only [List.length_nil]; omega))) ?_
  refine Gx.val rfl rfl rfl (val_move rfl rfl) ?_
  refine Gx.val rfl rfl rfl (val_extract rfl rfl rfl) ?_
  refine Gx.val rfl rfl rfl (val_extract rfl rfl rfl) ?_
  refine Gx.val rfl rfl rfl (val_assign rfl rfl) ?_
  refine Gx.val rfl rfl rfl (val_assign rfl rfl) ?_
  refine Gx.done ?_
  refine Gx.thenN ?_
  refine Gx.seq ?_
  refine Gx.seq ?_
  refine Gx.region ?_
  refine Gx.val rfl rfl rfl (val_move rfl rfl) ?_
  refine Gx.val rfl rfl rfl (val_len rfl Try.underlying22 rfl (len_base hv)) ?_
  refine Gx.val rfl rfl rfl (val_eql rfl rfl rfl) ?_
  refine Gx.val rfl rfl rfl (val_move rfl rfl) ?_
  refine Gx.cases (t := 23) rfl (fun h1 => ?_) (fun h1 => ?_)
  · refine Gx.skipg rfl rfl rfl rfl rfl rfl ?_
    refine Gx.skipg rfl rfl rfl rfl rfl rfl ?_
    refine Gx.skipg rfl rfl rfl rfl rfl rfl ?_
    refine Gx.val rfl rfl rfl (val_pickT rfl rfl rfl) ?_
    refine Gx.done ?_
    refine Gx.thenN ?_
    refine Gx.t rfl ?_
    refine Gx.seq ?_
    refine Gx.region ?_
    refine Gx.val rfl rfl rfl (val_move rfl rfl) ?_
    refine Gx.val rfl rfl rfl (Val.cast (val_neq rfl rfl rfl) (v' := .bool true) rfl) ?_
    refine Gx.val rfl rfl rfl (val_assign rfl rfl) ?_
    refine Gx.done ?_
    refine Gx.thenN ?_
    refine Gx.ret ?_
    refine Gx.thenR ?_
    refine Gx.ret1 Try.results5 rfl ?_
    first | rfl | (exact congrArg Value.bool (decide_eq_true (by decide)))
  · refine Gx.valg rfl rfl rfl rfl rfl (val_move rfl rfl) ?_
    refine Gx.valg rfl rfl rfl rfl rfl (val_len rfl Try.underlying22 rfl (len_base hv)) ?_
    refine Gx.valg rfl rfl rfl rfl rfl (val_gtr rfl rfl rfl) ?_
    refine Gx.val rfl rfl rfl (val_pickF rfl rfl rfl) ?_
    refine Gx.done ?_
    refine Gx.thenN ?_
    refine Gx.decT rfl (by omega) ?_
    refine Gx.seq ?_
    refine Gx.region ?_
    refine Gx.val rfl rfl rfl (val_move rfl rfl) ?_
    refine Gx.val rfl rfl rfl (Val.cast (val_neq rfl rfl rfl) (v' := .bool true) rfl) ?_
    refine Gx.val rfl rfl rfl (val_assign rfl rfl) ?_
    refine Gx.done ?_
    refine Gx.thenN ?_
    refine Gx.ret ?_
    refine Gx.thenR ?_
    refine Gx.ret1 Try.results5 rfl ?_
    first | rfl | (exact congrArg Value.bool (decide_eq_true (by decide)))

theorem none_out {W : World} {vs : Value} {vals : List Int} (hv : SlS FI 1 W vs vals) {r wh : Int} (hn1 : 1 ≤ vals.length) (hn6 : vals.length ≤ 6) (hin : ∀ x ∈ vals, In x) (hbad : r < 0 ∨ 6 < r ∨ wh < 0 ∨ (vals.length : Int) ≤ wh) :
    Calls Try.prog 5 #[vs, .int .i64 r, .int .i64 wh] W fun e w' => e = .returned (.bool true) ∧ Below W.heap.size W w' := by
  have m2 := sls_bd hv
  refine calls_pure (Gx.enter (l := []) Try.func5 rfl Try.ntmps5 rfl (Sat.start W) ?_)
  refine Gx.know (m' := [(0, vs), (1, .int .i64 r), (2, .int .i64 wh)]) (.cons rfl (.cons rfl (.cons rfl .nil))) ?_
  refine Gx.seq ?_
  refine Gx.region ?_
  refine Gx.val rfl rfl rfl (val_assign rfl rfl) ?_
  refine Gx.done ?_
  refine Gx.thenN ?_
  refine Gx.seq ?_
  refine Gx.region ?_
  refine Gx.val rfl rfl rfl (val_move rfl rfl) ?_
  refine Gx.callB rfl rfl rfl (vs := [vs, .int .i64 0, .slice none 0 0]) rfl Try.fn6 rfl (R := fun v w' => ∃ lv, v = .tuple #[lv, .int .i64 0] ∧ SlS FI 1 w' lv (lstF ([]) vals 0)) (fun w H => play_ok (hv.below H.below) (sls_nil _ _ _) (fun c hc => by cases hc) (hn1) (hn6) (by decide) (by simp) (hin) (rfl)) ?_
  rintro _ W2 ⟨lv1, rfl, hlv1⟩ H3
  have hW4 := H3.below
  have hs5 := hv.below H3.below
  have hlllv1 : (lstF ([]) vals 0).length = (vals).length := lst_len ..
  refine Gx.val rfl rfl rfl (val_move rfl rfl) ?_
  refine Gx.val rfl rfl rfl (val_extract rfl rfl rfl) ?_
  obtain ⟨sa6, sn7, sc8, rfl⟩ := hlv1.isS
  refine Gx.val rfl rfl rfl (val_extract rfl rfl rfl) ?_
  refine Gx.val rfl rfl rfl (val_assign rfl rfl) ?_
  refine Gx.val rfl rfl rfl (val_assign rfl rfl) ?_
  refine Gx.done ?_
  refine Gx.thenN ?_
  refine Gx.seq ?_
  refine Gx.seq ?_
  refine Gx.region ?_
  refine Gx.val rfl rfl rfl (val_move rfl rfl) ?_
  refine Gx.val rfl rfl rfl (val_len rfl Try.underlying22 rfl (len_base hs5)) ?_
  refine Gx.val rfl rfl rfl (val_eql rfl rfl rfl) ?_
  refine Gx.val rfl rfl rfl (val_move rfl rfl) ?_
  refine Gx.slot (t := 23) (v := .bool false) (look_decF rfl (by omega)) ?_
  refine Gx.valg rfl rfl rfl rfl rfl (val_move rfl rfl) ?_
  refine Gx.valg rfl rfl rfl rfl rfl (val_len rfl Try.underlying22 rfl (len_base hs5)) ?_
  refine Gx.valg rfl rfl rfl rfl rfl (val_gtr rfl rfl rfl) ?_
  refine Gx.val rfl rfl rfl (val_pickF rfl rfl rfl) ?_
  refine Gx.done ?_
  refine Gx.thenN ?_
  refine Gx.decF rfl (by omega) ?_
  refine Gx.skip ?_
  refine Gx.thenN ?_
  refine Gx.seq ?_
  refine Gx.seq ?_
  have hz0 : lstF [] vals 0 = vals := lst_zero
  rw [hz0] at hlv1
  refine Gx.region ?_
  refine Gx.val rfl rfl rfl (val_move rfl rfl) ?_
  refine Gx.val rfl rfl rfl (Val.cast (val_neq rfl rfl rfl) (v' := .bool false) rfl) ?_
  refine Gx.val rfl rfl rfl (val_move rfl rfl) ?_
  refine Gx.valg rfl rfl rfl rfl rfl (val_move rfl rfl) ?_
  refine Gx.valg rfl rfl rfl rfl rfl (val_move rfl rfl) ?_
  refine Gx.valg rfl rfl rfl rfl rfl (val_call (vs := [.slice sa6 sn7 sc8, vs]) rfl Try.fn10 rfl (fun w H => ints_yes (hlv1.below H.below) (hs5.below H.below))) ?_
  refine Gx.valg rfl rfl rfl rfl rfl (Val.cast (val_not rfl rfl) (v' := .bool false) rfl) ?_
  refine Gx.val rfl rfl rfl (val_pickF rfl rfl rfl) ?_
  refine Gx.done ?_
  refine Gx.thenN ?_
  refine Gx.f rfl ?_
  refine Gx.skip ?_
  refine Gx.thenN ?_
  refine Gx.seq ?_
  refine Gx.seq ?_
  refine Gx.region ?_
  refine Gx.val rfl rfl rfl (val_move rfl rfl) ?_
  refine Gx.val rfl rfl rfl (val_lss rfl rfl rfl) ?_
  refine Gx.val rfl rfl rfl (val_move rfl rfl) ?_
  refine Gx.cases (t := 40) rfl (fun h9 => ?_) (fun h9 => ?_)
  · refine Gx.skipg rfl rfl rfl rfl rfl rfl ?_
    refine Gx.skipg rfl rfl rfl rfl rfl rfl ?_
    refine Gx.val rfl rfl rfl (val_pickT rfl rfl rfl) ?_
    refine Gx.val rfl rfl rfl (val_move rfl rfl) ?_
    refine Gx.skipg rfl rfl rfl rfl rfl rfl ?_
    refine Gx.skipg rfl rfl rfl rfl rfl rfl ?_
    refine Gx.skipg rfl rfl rfl rfl rfl rfl ?_
    refine Gx.skipg rfl rfl rfl rfl rfl rfl ?_
    refine Gx.skipg rfl rfl rfl rfl rfl rfl ?_
    refine Gx.skipg rfl rfl rfl rfl rfl rfl ?_
    refine Gx.val rfl rfl rfl (val_pickT rfl rfl rfl) ?_
    refine Gx.done ?_
    refine Gx.thenN ?_
    refine Gx.t rfl ?_
    refine Gx.seq ?_
    refine Gx.region ?_
    refine Gx.val rfl rfl rfl (val_assign rfl rfl) ?_
    refine Gx.done ?_
    refine Gx.thenN ?_
    refine Gx.ret ?_
    refine Gx.thenR ?_
    refine Gx.ret1B hW4 Try.results5 rfl ?_
    rfl
  · refine Gx.valg rfl rfl rfl rfl rfl (val_move rfl rfl) ?_
    refine Gx.valg rfl rfl rfl rfl rfl (val_gtr rfl rfl rfl) ?_
    refine Gx.val rfl rfl rfl (val_pickF rfl rfl rfl) ?_
    refine Gx.val rfl rfl rfl (val_move rfl rfl) ?_
    refine Gx.cases (t := 44) rfl (fun h10 => ?_) (fun h10 => ?_)
    · refine Gx.skipg rfl rfl rfl rfl rfl rfl ?_
      refine Gx.skipg rfl rfl rfl rfl rfl rfl ?_
      refine Gx.skipg rfl rfl rfl rfl rfl rfl ?_
      refine Gx.skipg rfl rfl rfl rfl rfl rfl ?_
      refine Gx.skipg rfl rfl rfl rfl rfl rfl ?_
      refine Gx.skipg rfl rfl rfl rfl rfl rfl ?_
      refine Gx.val rfl rfl rfl (val_pickT rfl rfl rfl) ?_
      refine Gx.done ?_
      refine Gx.thenN ?_
      refine Gx.t rfl ?_
      refine Gx.seq ?_
      refine Gx.region ?_
      refine Gx.val rfl rfl rfl (val_assign rfl rfl) ?_
      refine Gx.done ?_
      refine Gx.thenN ?_
      refine Gx.ret ?_
      refine Gx.thenR ?_
      refine Gx.ret1B hW4 Try.results5 rfl ?_
      rfl
    · refine Gx.valg rfl rfl rfl rfl rfl (val_move rfl rfl) ?_
      refine Gx.valg rfl rfl rfl rfl rfl (val_len rfl Try.underlying22 rfl (len_base hs5)) ?_
      refine Gx.valg rfl rfl rfl rfl rfl (val_move rfl rfl) ?_
      refine Gx.effg rfl rfl rfl rfl rfl (eff_buildSlice rfl (qs := [(0, .int .i64 wh)]) rfl rfl (cs := #[.int .i64 wh]) (vs := [.int .i64 wh]) (E := 3) rfl (fun w => by first | (go_simp; done) | (go_simp; rfl))) ?_
      rintro _ _ ⟨b11, rfl, rfl⟩
      refine Gx.valg rfl rfl rfl rfl rfl (val_call (vs := [.int .i64 ((vals.length : Nat) : Int), .slice (some ⟨b11, 0, none⟩) 1 1]) rfl Try.fn11 rfl (fun w H => inside_one (y := wh) (sls_of_rec (H.at_ (k := 0) rfl)))) ?_
      refine Gx.valg rfl rfl rfl rfl rfl (val_notD rfl rfl) ?_
      refine Gx.val rfl rfl rfl (val_pickF rfl rfl rfl) ?_
      refine Gx.done ?_
      refine Gx.thenN ?_
      refine Gx.decT rfl (by omega) ?_
      refine Gx.seq ?_
      refine Gx.region ?_
      refine Gx.val rfl rfl rfl (val_assign rfl rfl) ?_
      refine Gx.done ?_
      refine Gx.thenN ?_
      refine Gx.ret ?_
      refine Gx.thenR ?_
      refine Gx.ret1B hW4 Try.results5 rfl ?_
      rfl

theorem none_in {W : World} {vs : Value} {vals : List Int} (hv : SlS FI 1 W vs vals) {R wh : Nat} (hn1 : 1 ≤ vals.length) (hn6 : vals.length ≤ 6) (hin : ∀ x ∈ vals, In x) (hr6 : R ≤ 6) (hw : wh < vals.length) :
    Calls Try.prog 5 #[vs, .int .i64 ((R : Nat) : Int), .int .i64 ((wh : Nat) : Int)] W fun e w' => e = .returned (.bool true) ∧ Below W.heap.size W w' := by
  have m2 := sls_bd hv
  refine calls_pure (Gx.enter (l := []) Try.func5 rfl Try.ntmps5 rfl (Sat.start W) ?_)
  refine Gx.know (m' := [(0, vs), (1, .int .i64 ((R : Nat) : Int)), (2, .int .i64 ((wh : Nat) : Int))]) (.cons rfl (.cons rfl (.cons rfl .nil))) ?_
  refine Gx.seq ?_
  refine Gx.region ?_
  refine Gx.val rfl rfl rfl (val_assign rfl rfl) ?_
  refine Gx.done ?_
  refine Gx.thenN ?_
  refine Gx.seq ?_
  refine Gx.region ?_
  refine Gx.val rfl rfl rfl (val_move rfl rfl) ?_
  refine Gx.callB rfl rfl rfl (vs := [vs, .int .i64 0, .slice none 0 0]) rfl Try.fn6 rfl (R := fun v w' => ∃ lv, v = .tuple #[lv, .int .i64 0] ∧ SlS FI 1 w' lv (lstF ([]) vals 0)) (fun w H => play_ok (hv.below H.below) (sls_nil _ _ _) (fun c hc => by cases hc) (hn1) (hn6) (by decide) (by simp) (hin) (rfl)) ?_
  rintro _ W2 ⟨lv1, rfl, hlv1⟩ H3
  have hW4 := H3.below
  have hs5 := hv.below H3.below
  have hlllv1 : (lstF ([]) vals 0).length = (vals).length := lst_len ..
  refine Gx.val rfl rfl rfl (val_move rfl rfl) ?_
  refine Gx.val rfl rfl rfl (val_extract rfl rfl rfl) ?_
  obtain ⟨sa6, sn7, sc8, rfl⟩ := hlv1.isS
  refine Gx.val rfl rfl rfl (val_extract rfl rfl rfl) ?_
  refine Gx.val rfl rfl rfl (val_assign rfl rfl) ?_
  refine Gx.val rfl rfl rfl (val_assign rfl rfl) ?_
  refine Gx.done ?_
  refine Gx.thenN ?_
  refine Gx.seq ?_
  refine Gx.seq ?_
  refine Gx.region ?_
  refine Gx.val rfl rfl rfl (val_move rfl rfl) ?_
  refine Gx.val rfl rfl rfl (val_len rfl Try.underlying22 rfl (len_base hs5)) ?_
  refine Gx.val rfl rfl rfl (val_eql rfl rfl rfl) ?_
  refine Gx.val rfl rfl rfl (val_move rfl rfl) ?_
  refine Gx.slot (t := 23) (v := .bool false) (look_decF rfl (by omega)) ?_
  refine Gx.valg rfl rfl rfl rfl rfl (val_move rfl rfl) ?_
  refine Gx.valg rfl rfl rfl rfl rfl (val_len rfl Try.underlying22 rfl (len_base hs5)) ?_
  refine Gx.valg rfl rfl rfl rfl rfl (val_gtr rfl rfl rfl) ?_
  refine Gx.val rfl rfl rfl (val_pickF rfl rfl rfl) ?_
  refine Gx.done ?_
  refine Gx.thenN ?_
  refine Gx.decF rfl (by omega) ?_
  refine Gx.skip ?_
  refine Gx.thenN ?_
  refine Gx.seq ?_
  refine Gx.seq ?_
  have hz0 : lstF [] vals 0 = vals := lst_zero
  rw [hz0] at hlv1
  refine Gx.region ?_
  refine Gx.val rfl rfl rfl (val_move rfl rfl) ?_
  refine Gx.val rfl rfl rfl (Val.cast (val_neq rfl rfl rfl) (v' := .bool false) rfl) ?_
  refine Gx.val rfl rfl rfl (val_move rfl rfl) ?_
  refine Gx.valg rfl rfl rfl rfl rfl (val_move rfl rfl) ?_
  refine Gx.valg rfl rfl rfl rfl rfl (val_move rfl rfl) ?_
  refine Gx.valg rfl rfl rfl rfl rfl (val_call (vs := [.slice sa6 sn7 sc8, vs]) rfl Try.fn10 rfl (fun w H => ints_yes (hlv1.below H.below) (hs5.below H.below))) ?_
  refine Gx.valg rfl rfl rfl rfl rfl (Val.cast (val_not rfl rfl) (v' := .bool false) rfl) ?_
  refine Gx.val rfl rfl rfl (val_pickF rfl rfl rfl) ?_
  refine Gx.done ?_
  refine Gx.thenN ?_
  refine Gx.f rfl ?_
  refine Gx.skip ?_
  refine Gx.thenN ?_
  refine Gx.seq ?_
  refine Gx.seq ?_
  refine Gx.region ?_
  refine Gx.val rfl rfl rfl (val_move rfl rfl) ?_
  refine Gx.val rfl rfl rfl (val_lss rfl rfl rfl) ?_
  refine Gx.val rfl rfl rfl (val_move rfl rfl) ?_
  refine Gx.slot (t := 40) (v := .bool false) (look_decF rfl (by omega)) ?_
  refine Gx.valg rfl rfl rfl rfl rfl (val_move rfl rfl) ?_
  refine Gx.valg rfl rfl rfl rfl rfl (val_gtr rfl rfl rfl) ?_
  refine Gx.val rfl rfl rfl (val_pickF rfl rfl rfl) ?_
  refine Gx.val rfl rfl rfl (val_move rfl rfl) ?_
  refine Gx.slot (t := 44) (v := .bool false) (look_decF rfl (by omega)) ?_
  refine Gx.valg rfl rfl rfl rfl rfl (val_move rfl rfl) ?_
  refine Gx.valg rfl rfl rfl rfl rfl (val_len rfl Try.underlying22 rfl (len_base hs5)) ?_
  refine Gx.valg rfl rfl rfl rfl rfl (val_move rfl rfl) ?_
  refine Gx.effg rfl rfl rfl rfl rfl (eff_buildSlice rfl (qs := [(0, .int .i64 ((wh : Nat) : Int))]) rfl rfl (cs := #[.int .i64 ((wh : Nat) : Int)]) (vs := [.int .i64 ((wh : Nat) : Int)]) (E := 3) rfl (fun w => by first | (go_simp; done) | (go_simp; rfl))) ?_
  rintro _ _ ⟨b9, rfl, rfl⟩
  refine Gx.valg rfl rfl rfl rfl rfl (val_call (vs := [.int .i64 ((vals.length : Nat) : Int), .slice (some ⟨b9, 0, none⟩) 1 1]) rfl Try.fn11 rfl (fun w H => inside_one (y := ((wh : Nat) : Int)) (sls_of_rec (H.at_ (k := 0) rfl)))) ?_
  refine Gx.valg rfl rfl rfl rfl rfl (val_notD rfl rfl) ?_
  refine Gx.val rfl rfl rfl (val_pickF rfl rfl rfl) ?_
  refine Gx.done ?_
  refine Gx.thenN ?_
  refine Gx.decF rfl (by omega) ?_
  refine Gx.skip ?_
  refine Gx.thenN ?_
  refine Gx.seq ?_
  refine Gx.region ?_
  refine Gx.val rfl rfl rfl (val_move rfl rfl) ?_
  refine Gx.val rfl rfl rfl (val_build rfl (qs := [(0, .int .i64 ((wh : Nat) : Int))]) rfl rfl (fun w => by go_simp) (v := .agg #[.int .i64 ((wh : Nat) : Int), .int .i64 0, .int .u32 0])) ?_
  refine Gx.eff rfl rfl rfl (eff_buildSlice rfl (qs := [(0, .agg #[.int .i64 ((wh : Nat) : Int), .int .i64 0, .int .u32 0])]) rfl rfl (cs := #[.int .i64 ((wh : Nat) : Int), .int .i64 0, .int .u32 0]) (vs := [.int .i64 ((wh : Nat) : Int), .int .i64 0, .int .u32 0]) (E := 30) rfl (fun w => by first | (go_simp; done) | (go_simp; rfl))) ?_
  rintro _ _ ⟨b10, rfl, rfl⟩
  refine Gx.val rfl rfl rfl (val_assign rfl rfl) ?_
  refine Gx.done ?_
  refine Gx.thenN ?_
  refine Gx.seq ?_
  refine Gx.part (k := 0) rfl (q := Hp.own FC 3 (.slice (some ⟨b10, 0, none⟩) 1 1) ([(⟨(wh : Int), 0, 0⟩ : Cr)])) (own_of_rec (f := FC) (xs := [(⟨(wh : Int), 0, 0⟩ : Cr)]) FC_len rfl) ?_
  refine Gx.norm (l' := [Hp.own FC 3 (.slice (some ⟨b10, 0, none⟩) 1 1) ([(⟨(wh : Int), 0, 0⟩ : Cr)]), Hp.rec_ b9 [.int .i64 ((wh : Nat) : Int)]]) rfl ?_
  refine Gx.region ?_
  refine Gx.val rfl rfl rfl (val_move rfl rfl) ?_
  refine Gx.val rfl rfl rfl (val_move rfl rfl) ?_
  refine Gx.val rfl rfl rfl (val_move rfl rfl) ?_
  refine Gx.callB rfl rfl rfl (vs := [vs, .int .i64 ((R : Nat) : Int), .slice (some ⟨b10, 0, none⟩) 1 1]) rfl Try.fn6 rfl (R := fun v w' => ∃ lv, v = .tuple #[lv, .int .i64 0] ∧ SlS FI 1 w' lv (lstF ([(⟨(wh : Int), 0, 0⟩ : Cr)]) vals R)) (fun w H => play_ok (hs5.below H.below) ((H.at_ (k := 0) rfl).sls (by first | omega | (simp; done) | (simp; omega))) (fun c hc => by rw [List.mem_singleton] at hc; subst hc; show (0 : Nat) < 4294967296; decide) (hn1) (hn6) (hr6) (by simp) (hin) (wr_crash hw)) ?_
  rintro _ W12 ⟨lv11, rfl, hlv11⟩ H13
  have hW14 := hW4.trans (H13.below.mono hW4.size)
  have hs15 := hs5.below H13.below
  have hs16 := hlv1.below H13.below
  have hs17 := (H13.at_ (k := 0) rfl).sls (by first | omega | (simp; done) | (simp; omega))
  have hb18 := (H13.at_ (k := 1) rfl).rec_.1
  have hc19 := (H13.at_ (k := 1) rfl).cell 0 (u := .int .i64 ((wh : Nat) : Int)) rfl
  have hlllv11 : (lstF ([(⟨(wh : Int), 0, 0⟩ : Cr)]) vals R).length = (vals).length := lst_len ..
  refine Gx.val rfl rfl rfl (val_move rfl rfl) ?_
  refine Gx.val rfl rfl rfl (val_extract rfl rfl rfl) ?_
  obtain ⟨sa20, sn21, sc22, rfl⟩ := hlv11.isS
  refine Gx.val rfl rfl rfl (val_extract rfl rfl rfl) ?_
  refine Gx.val rfl rfl rfl (val_assign rfl rfl) ?_
  refine Gx.val rfl rfl rfl (val_assign rfl rfl) ?_
  refine Gx.done ?_
  refine Gx.thenN ?_
  refine Gx.seq ?_
  refine Gx.region ?_
  refine Gx.eff rfl rfl rfl (eff_buildNil (f := FI) (sz := 1) (e := 3) rfl Try.underlying22 (fun w => by first | (go_simp; done) | (go_simp; rfl))) ?_
  rintro v23 _ ⟨hiv23, rfl⟩
  refine Gx.val rfl rfl rfl (val_move rfl rfl) ?_
  refine Gx.eff rfl rfl rfl (eff_pushAll (k := 0) (ys := vals) rfl Try.eI FI_len FI_one rfl rfl (fun w H => hs15.below H.below) rfl (by simp; omega) (by simp; omega)) ?_
  rintro v24 _ ⟨hiv24, rfl⟩
  refine Gx.norm (l' := [Hp.own FI 1 v24 vals]) rfl ?_
  refine Gx.val rfl rfl rfl (val_assign rfl rfl) ?_
  refine Gx.done ?_
  refine Gx.thenN ?_
  refine Gx.seq ?_
  refine Gx.norm (l' := [Hp.own FI 1 v24 vals]) (by simp <;> rfl) ?_
  obtain ⟨xw, hxw⟩ := get_of_lt (xs := vals) (k := wh) (by omega)
  refine Gx.region ?_
  refine Gx.val rfl rfl rfl (val_move rfl rfl) ?_
  refine Gx.val rfl rfl rfl (val_move rfl rfl) ?_
  refine Gx.val rfl rfl rfl (val_move rfl rfl) ?_
  refine Gx.val rfl rfl rfl (val_move rfl rfl) ?_
  refine Gx.val rfl rfl rfl (val_ixa rfl Try.underlying22 Try.ty3 rfl rfl (j := wh) (rfl) (reach_own (k := 0) rfl hxw)) ?_
  refine Gx.val rfl rfl rfl (val_load rfl Try.ty3 rfl rfl (cell_own (i := 0) (k := 0) rfl hxw rfl)) ?_
  refine Gx.val rfl rfl rfl (val_add rfl rfl rfl (r := (IntKind.i64.wrap (xw + 1))) (rfl)) ?_
  refine Gx.val rfl rfl rfl (val_ixa rfl Try.underlying22 Try.ty3 rfl rfl (j := wh) (rfl) (reach_own (k := 0) rfl hxw)) ?_
  refine Gx.eff0 rfl rfl (eff_storeElA (IntKind.i64.wrap (xw + 1)) rfl Try.ty3 rfl rfl rfl FI_one (k := 0) rfl FI_len hxw (l' := [Hp.own FI 1 v24 (vals.set wh (IntKind.i64.wrap (xw + 1)))]) rfl) ?_
  rintro _ _ rfl
  refine Gx.done ?_
  refine Gx.thenN ?_
  refine Gx.seq ?_
  refine Gx.norm (l' := [Hp.own FI 1 v24 (vals.set wh (IntKind.i64.wrap (xw + 1)))]) rfl ?_
  have hl2 : (vals.set wh (IntKind.i64.wrap (xw + 1))).length = vals.length := List.length_set
  have hin2 : ∀ x ∈ (vals.set wh (IntKind.i64.wrap (xw + 1))), In x := fun x hx => by
    rcases List.mem_or_eq_of_mem_set hx with h | rfl
    · exact hin x h
    · exact wf_wrap _ _
  refine Gx.region ?_
  refine Gx.val rfl rfl rfl (val_move rfl rfl) ?_
  refine Gx.val rfl rfl rfl (val_move rfl rfl) ?_
  refine Gx.val rfl rfl rfl (val_move rfl rfl) ?_
  refine Gx.callB rfl rfl rfl (vs := [v24, .int .i64 ((R : Nat) : Int), .slice (some ⟨b10, 0, none⟩) 1 1]) rfl Try.fn6 rfl (R := fun v w' => ∃ lv, v = .tuple #[lv, .int .i64 0] ∧ SlS FI 1 w' lv (lstF ([(⟨(wh : Int), 0, 0⟩ : Cr)]) (vals.set wh (IntKind.i64.wrap (xw + 1))) R)) (fun w H => play_ok ((H.at_ (k := 0) rfl).sls (by first | omega | (simp; done) | (simp; omega))) (hs17.below H.below) (fun c hc => by rw [List.mem_singleton] at hc; subst hc; show (0 : Nat) < 4294967296; decide) (by rw [hl2]; exact hn1) (by rw [hl2]; exact hn6) (hr6) (by simp) (hin2) (wr_crash (by rw [hl2]; exact hw))) ?_
  rintro _ W26 ⟨lv25, rfl, hlv25⟩ H27
  have hW28 := hW14.trans (H27.below.mono hW14.size)
  have hs29 := hs15.below H27.below
  have hs30 := hs16.below H27.below
  have hs31 := hs17.below H27.below
  have hs32 := hlv11.below H27.below
  have hb33 := Nat.lt_of_lt_of_le hb18 H27.size
  have hc34 := (H27.below.cell (p := ⟨b9, 0, none⟩) hb18).trans hc19
  have hs35 := (H27.at_ (k := 0) rfl).sls (by first | omega | (simp; done) | (simp; omega))
  have hlllv25 : (lstF ([(⟨(wh : Int), 0, 0⟩ : Cr)]) (vals.set wh (IntKind.i64.wrap (xw + 1))) R).length = ((vals.set wh (IntKind.i64.wrap (xw + 1)))).length := lst_len ..
  refine Gx.val rfl rfl rfl (val_move rfl rfl) ?_
  refine Gx.val rfl rfl rfl (val_extract rfl rfl rfl) ?_
  obtain ⟨sa36, sn37, sc38, rfl⟩ := hlv25.isS
  refine Gx.val rfl rfl rfl (val_extract rfl rfl rfl) ?_
  refine Gx.val rfl rfl rfl (val_assign rfl rfl) ?_
  refine Gx.val rfl rfl rfl (val_assign rfl rfl) ?_
  refine Gx.done ?_
  refine Gx.thenN ?_
  refine Gx.seq ?_
  refine Gx.seq ?_
  refine Gx.region ?_
  refine Gx.val rfl rfl rfl (val_move rfl rfl) ?_
  refine Gx.val rfl rfl rfl (Val.cast (val_neq rfl rfl rfl) (v' := .bool false) rfl) ?_
  refine Gx.val rfl rfl rfl (val_move rfl rfl) ?_
  refine Gx.valg rfl rfl rfl rfl rfl (val_move rfl rfl) ?_
  refine Gx.valg rfl rfl rfl rfl rfl (Val.cast (val_neq rfl rfl rfl) (v' := .bool false) rfl) ?_
  refine Gx.val rfl rfl rfl (val_pickF rfl rfl rfl) ?_
  refine Gx.val rfl rfl rfl (val_move rfl rfl) ?_
  refine Gx.valg rfl rfl rfl rfl rfl (val_move rfl rfl) ?_
  refine Gx.valg rfl rfl rfl rfl rfl (val_len rfl Try.underlying22 rfl (len_base hs32)) ?_
  refine Gx.valg rfl rfl rfl rfl rfl (val_move rfl rfl) ?_
  refine Gx.valg rfl rfl rfl rfl rfl (val_len rfl Try.underlying22 rfl (len_base hs29)) ?_
  refine Gx.valg rfl rfl rfl rfl rfl (val_neq rfl rfl rfl) ?_
  refine Gx.val rfl rfl rfl (val_pickF rfl rfl rfl) ?_
  refine Gx.val rfl rfl rfl (val_move rfl rfl) ?_
  refine Gx.slot (t := 93) (v := .bool false) (look_decF rfl (by omega)) ?_
  refine Gx.valg rfl rfl rfl rfl rfl (val_move rfl rfl) ?_
  refine Gx.valg rfl rfl rfl rfl rfl (val_len rfl Try.underlying22 rfl (len_base hlv25)) ?_
  refine Gx.valg rfl rfl rfl rfl rfl (val_move rfl rfl) ?_
  refine Gx.valg rfl rfl rfl rfl rfl (val_len rfl Try.underlying22 rfl (len_base hs29)) ?_
  refine Gx.valg rfl rfl rfl rfl rfl (val_neq rfl rfl rfl) ?_
  refine Gx.val rfl rfl rfl (val_pickF rfl rfl rfl) ?_
  refine Gx.done ?_
  refine Gx.thenN ?_
  refine Gx.decF rfl (by omega) ?_
  refine Gx.skip ?_
  refine Gx.thenN ?_
  refine Gx.seq ?_
  refine Gx.seq ?_
  refine Gx.region ?_
  refine Gx.val rfl rfl rfl (val_assign rfl rfl) ?_
  refine Gx.done ?_
  refine Gx.thenN ?_
  refine Gx.block ?_
  refine Gx.loop (ι := Nat) (fun ξ => (ξ ≤ vals.length)) (fun ξ => [(2, .int .i64 ((wh : Nat) : Int)), (10, .slice sa20 sn21 sc22), (12, .slice sa36 sn37 sc38), (14, .int .i64 ((ξ : Nat) : Int))]) (fun ξ => []) (fun ξ => vals.length - ξ) 0 (by first | omega | (dsimp only; omega)) ((.cons rfl (.cons rfl (.cons rfl (.cons rfl .nil))))) rfl ?_
  rintro k hk
  refine Gx.know (m' := [(2, .int .i64 ((wh : Nat) : Int)), (10, .slice sa20 sn21 sc22), (12, .slice sa36 sn37 sc38), (14, .int .i64 ((k : Nat) : Int))]) (.cons rfl (.cons rfl (.cons rfl (.cons rfl .nil)))) (Gx.norm (l' := []) rfl ?_)
  refine Gx.seq ?_
  refine Gx.seq ?_
  refine Gx.region ?_
  refine Gx.val rfl rfl rfl (val_move rfl rfl) ?_
  refine Gx.val rfl rfl rfl (val_move rfl rfl) ?_
  refine Gx.val rfl rfl rfl (val_len rfl Try.underlying22 rfl (len_base hs32)) ?_
  refine Gx.val rfl rfl rfl (val_lss rfl rfl rfl) ?_
  refine Gx.done ?_
  refine Gx.thenN ?_
  refine Gx.dec rfl (fun h39 => ?_) (fun h39 => ?_)
  · refine Gx.skip ?_
    refine Gx.thenN ?_
    refine Gx.seq ?_
    refine Gx.block ?_
    refine Gx.seq ?_
    refine Gx.regionQ Try.mixed (by kernel_rfl) ?_
    refine Gq.val rfl rfl rfl (val_move rfl rfl) ?_
    refine Gq.val rfl rfl rfl (val_move rfl rfl) ?_
    refine Gq.val rfl rfl rfl (val_neq rfl rfl rfl) ?_
    refine Gq.val rfl rfl rfl (val_move rfl rfl) ?_
    refine Gq.cases (t := 109) rfl (fun h40 => ?_) (fun h40 => ?_)
    · refine Gq.valg rfl rfl rfl rfl rfl (val_move rfl rfl) ?_
      refine Gq.valg rfl rfl rfl rfl rfl (val_move rfl rfl) ?_
      obtain ⟨x41, hx41⟩ := get_of_lt (xs := (lstF ([(⟨(wh : Int), 0, 0⟩ : Cr)]) vals R)) (k := k) (by omega)
      refine Gq.valg rfl rfl rfl rfl rfl (val_ixa rfl Try.underlying22 Try.ty3 rfl rfl (j := k) (rfl) (reach_base hs32 hx41)) ?_
      refine Gq.valg rfl rfl rfl rfl rfl (val_load rfl Try.ty3 rfl rfl (cell_base (i := 0) hs32 hx41 rfl)) ?_
      refine Gq.valg rfl rfl rfl rfl rfl (val_move rfl rfl) ?_
      refine Gq.valg rfl rfl rfl rfl rfl (val_move rfl rfl) ?_
      obtain ⟨x42, hx42⟩ := get_of_lt (xs := (lstF ([(⟨(wh : Int), 0, 0⟩ : Cr)]) (vals.set wh (IntKind.i64.wrap (xw + 1))) R)) (k := k) (by omega)
      refine Gq.valg rfl rfl rfl rfl rfl (val_ixa rfl Try.underlying22 Try.ty3 rfl rfl (j := k) (rfl) (reach_base hlv25 hx42)) ?_
      refine Gq.valg rfl rfl rfl rfl rfl (val_load rfl Try.ty3 rfl rfl (cell_base (i := 0) hlv25 hx42 rfl)) ?_
      refine Gq.valg rfl rfl rfl rfl rfl (val_neq rfl rfl rfl) ?_
      refine Gq.val rfl rfl rfl (val_pickT rfl rfl rfl) ?_
      refine Gq.done ?_
      refine Gx.thenN ?_
      refine Gx.decF rfl (fun q => q (none_same (by omega) hx41 hx42)) ?_
      refine Gx.skip ?_
      refine Gx.blkN ?_
      refine Gx.thenN ?_
      refine Gx.region ?_
      refine Gx.val rfl rfl rfl (val_move rfl rfl) ?_
      refine Gx.val rfl rfl rfl (val_add rfl rfl rfl (r := ((k + 1 : Nat) : Int)) (w64 (by omega) (by omega))) ?_
      refine Gx.val rfl rfl rfl (val_assign rfl rfl) ?_
      refine Gx.done ?_
      refine Gx.thenN ?_
      exact Gx.round (k + 1) (by first | omega | (dsimp only; omega)) (by first | omega | (dsimp only; omega)) ((.cons rfl (.cons rfl (.cons rfl (.cons rfl .nil))))) rfl
    · refine Gq.skipg rfl rfl rfl rfl rfl rfl ?_
      refine Gq.skipg rfl rfl rfl rfl rfl rfl ?_
      refine Gq.skipg rfl rfl rfl rfl rfl rfl ?_
      refine Gq.skipg rfl rfl rfl rfl rfl rfl ?_
      refine Gq.skipg rfl rfl rfl rfl rfl rfl ?_
      refine Gq.skipg rfl rfl rfl rfl rfl rfl ?_
      refine Gq.skipg rfl rfl rfl rfl rfl rfl ?_
      refine Gq.skipg rfl rfl rfl rfl rfl rfl ?_
      refine Gq.skipg rfl rfl rfl rfl rfl rfl ?_
      refine Gq.val rfl rfl rfl (val_pickF rfl rfl rfl) ?_
      refine Gq.done ?_
      refine Gx.thenN ?_
      refine Gx.f rfl ?_
      refine Gx.skip ?_
      refine Gx.blkN ?_
      refine Gx.thenN ?_
      refine Gx.region ?_
      refine Gx.val rfl rfl rfl (val_move rfl rfl) ?_
      refine Gx.val rfl rfl rfl (val_add rfl rfl rfl (r := ((k + 1 : Nat) : Int)) (w64 (by omega) (by omega))) ?_
      refine Gx.val rfl rfl rfl (val_assign rfl rfl) ?_
      refine Gx.done ?_
      refine Gx.thenN ?_
      exact Gx.round (k + 1) (by first | omega | (dsimp only; omega)) (by first | omega | (dsimp only; omega)) ((.cons rfl (.cons rfl (.cons rfl (.cons rfl .nil))))) rfl
  · refine Gx.exit ?_
    refine Gx.thenE ?_
    refine Gx.thenE ?_
    refine Gx.blkE ?_
    refine Gx.thenN ?_
    refine Gx.seq ?_
    refine Gx.region ?_
    refine Gx.val rfl rfl rfl (val_assign rfl rfl) ?_
    refine Gx.done ?_
    refine Gx.thenN ?_
    refine Gx.ret ?_
    refine Gx.ret1B hW28 Try.results5 rfl ?_
    rfl

theorem none_any {W : World} {vs : Value} {vals : List Int} {r wh : Int} (hv : SlS FI 1 W vs vals) (hin : ∀ x ∈ vals, (Lit.int .i64 x).wf = true) :
    Calls Try.prog 5 #[vs, .int .i64 r, .int .i64 wh] W fun e w' => e = .returned (.bool true) ∧ Below W.heap.size W w' := by
  by_cases h : vals.length = 0 ∨ 6 < vals.length
  · exact none_no hv h
  by_cases h2 : r < 0 ∨ 6 < r ∨ wh < 0 ∨ (vals.length : Int) ≤ wh
  · exact none_out hv (by omega) (by omega) hin h2
  obtain ⟨R, rfl⟩ : ∃ R : Nat, r = (R : Int) := ⟨r.toNat, by omega⟩
  obtain ⟨w', rfl⟩ : ∃ w' : Nat, wh = (w' : Int) := ⟨wh.toNat, by omega⟩
  exact none_in hv (by omega) (by omega) hin (by omega) (by omega)
end Go.Proofs.Ytmkhjlmhobihmaa
