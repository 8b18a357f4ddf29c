/- A script played. The walk. No condition. -/
import Derived.Test.YtbfcfekpfgpfbaaA4
namespace Go.Proofs.Ytbfcfekpfgpfbaa
open Go.RowKit
set_option linter.unusedVariables false
set_option linter.unusedSimpArgs false
set_option maxRecDepth 100000

theorem play_no1 {W : World} {k f d : Int} {L : Nat} {sv : Value} {cs : List Mv} (hs : SlS FM 6 W sv cs) (hbad : k < 1 ∨ 7 < k ∨ 120 < (cs.length : Int)) :
    Calls Try.prog 7 #[.int .i64 k, .int .i64 f, .int .u32 ((L : Nat) : Int), .int .i64 d, sv] W fun e w' => e = .returned (.tuple #[.agg #[.slice none 0 0, .slice none 0 0, .slice none 0 0, .int .i64 0, .int .i64 0], .int .i64 1]) ∧ Below W.heap.size W w' := by
  refine calls_pure (Gx.enter (l := []) Try.func7 rfl Try.ntmps7 rfl (Sat.start W) ?_)
  refine Gx.know (m' := [(0, .int .i64 k), (1, .int .i64 f), (2, .int .u32 ((L : Nat) : Int)), (3, .int .i64 d), (4, sv)]) (.cons rfl (.cons rfl (.cons rfl (.cons rfl (.cons rfl .nil))))) ?_
  refine Gx.seq ?_
  refine Gx.region ?_
  refine Gx.eff rfl rfl rfl (eff_alloc rfl Try.ty28 (vs := [.slice none 0 0, .slice none 0 0, .slice none 0 0, .int .i64 0, .int .i64 0]) rfl) ?_
  rintro _ _ ⟨b1, rfl, rfl⟩
  refine Gx.val rfl rfl rfl (val_assign rfl rfl) ?_
  refine Gx.done ?_
  refine Gx.thenN ?_
  refine Gx.seq ?_
  refine Gx.seq ?_
  refine Gx.region ?_
  refine Gx.val rfl rfl rfl (val_move rfl rfl) ?_
  refine Gx.val rfl rfl rfl (val_lss rfl rfl rfl) ?_
  refine Gx.val rfl rfl rfl (val_move rfl rfl) ?_
  refine Gx.cases (t := 21) rfl (fun h2 => ?_) (fun h2 => ?_)
  · refine Gx.skipg rfl rfl rfl rfl rfl rfl ?_
    refine Gx.skipg rfl rfl rfl rfl rfl rfl ?_
    refine Gx.val rfl rfl rfl (val_pickT rfl rfl rfl) ?_
    refine Gx.val rfl rfl rfl (val_move rfl rfl) ?_
    refine Gx.skipg rfl rfl rfl rfl rfl rfl ?_
    refine Gx.skipg rfl rfl rfl rfl rfl rfl ?_
    refine Gx.skipg rfl rfl rfl rfl rfl rfl ?_
    refine Gx.val rfl rfl rfl (val_pickT rfl rfl rfl) ?_
    refine Gx.done ?_
    refine Gx.thenN ?_
    refine Gx.t rfl ?_
    refine Gx.seq ?_
    refine Gx.region ?_
    refine Gx.val rfl rfl rfl (val_build rfl (qs := []) rfl rfl (fun w => by go_simp) (v := .agg #[.slice none 0 0, .slice none 0 0, .slice none 0 0, .int .i64 0, .int .i64 0])) ?_
    refine Gx.eff0 rfl rfl (eff_store rfl Try.ty28 rfl rfl (us := [.slice none 0 0, .slice none 0 0, .slice none 0 0, .int .i64 0, .int .i64 0]) rfl rfl rfl (k := 0) rfl (rfl) (vs' := [.slice none 0 0, .slice none 0 0, .slice none 0 0, .int .i64 0, .int .i64 0]) (rfl) (l' := [Hp.rec_ b1 [.slice none 0 0, .slice none 0 0, .slice none 0 0, .int .i64 0, .int .i64 0]]) rfl) ?_
    rintro _ _ rfl
    refine Gx.val rfl rfl rfl (val_assign rfl rfl) ?_
    refine Gx.done ?_
    refine Gx.thenN ?_
    refine Gx.ret ?_
    refine Gx.thenR ?_
    refine Gx.retC2 Try.results7 Try.ty28 rfl rfl (us := [.slice none 0 0, .slice none 0 0, .slice none 0 0, .int .i64 0, .int .i64 0]) rfl (k := 0) rfl rfl ?_
    rfl
  · refine Gx.valg rfl rfl rfl rfl rfl (val_move rfl rfl) ?_
    refine Gx.valg rfl rfl rfl rfl rfl (val_gtr rfl rfl rfl) ?_
    refine Gx.val rfl rfl rfl (val_pickF rfl rfl rfl) ?_
    refine Gx.val rfl rfl rfl (val_move rfl rfl) ?_
    refine Gx.cases (t := 25) rfl (fun h3 => ?_) (fun h3 => ?_)
    · refine Gx.skipg rfl rfl rfl rfl rfl rfl ?_
      refine Gx.skipg rfl rfl rfl rfl rfl rfl ?_
      refine Gx.skipg rfl rfl rfl rfl rfl rfl ?_
      refine Gx.val rfl rfl rfl (val_pickT rfl rfl rfl) ?_
      refine Gx.done ?_
      refine Gx.thenN ?_
      refine Gx.t rfl ?_
      refine Gx.seq ?_
      refine Gx.region ?_
      refine Gx.val rfl rfl rfl (val_build rfl (qs := []) rfl rfl (fun w => by go_simp) (v := .agg #[.slice none 0 0, .slice none 0 0, .slice none 0 0, .int .i64 0, .int .i64 0])) ?_
      refine Gx.eff0 rfl rfl (eff_store rfl Try.ty28 rfl rfl (us := [.slice none 0 0, .slice none 0 0, .slice none 0 0, .int .i64 0, .int .i64 0]) rfl rfl rfl (k := 0) rfl (rfl) (vs' := [.slice none 0 0, .slice none 0 0, .slice none 0 0, .int .i64 0, .int .i64 0]) (rfl) (l' := [Hp.rec_ b1 [.slice none 0 0, .slice none 0 0, .slice none 0 0, .int .i64 0, .int .i64 0]]) rfl) ?_
      rintro _ _ rfl
      refine Gx.val rfl rfl rfl (val_assign rfl rfl) ?_
      refine Gx.done ?_
      refine Gx.thenN ?_
      refine Gx.ret ?_
      refine Gx.thenR ?_
      refine Gx.retC2 Try.results7 Try.ty28 rfl rfl (us := [.slice none 0 0, .slice none 0 0, .slice none 0 0, .int .i64 0, .int .i64 0]) rfl (k := 0) rfl rfl ?_
      rfl
    · refine Gx.valg rfl rfl rfl rfl rfl (val_move rfl rfl) ?_
      refine Gx.valg rfl rfl rfl rfl rfl (val_len rfl Try.underlying23 rfl (len_base hs)) ?_
      refine Gx.valg rfl rfl rfl rfl rfl (val_gtr rfl rfl rfl) ?_
      refine Gx.val rfl rfl rfl (val_pickF rfl rfl rfl) ?_
      refine Gx.done ?_
      refine Gx.thenN ?_
      refine Gx.dec rfl (fun h4 => ?_) (fun h4 => ?_)
      · refine Gx.seq ?_
        refine Gx.region ?_
        refine Gx.val rfl rfl rfl (val_build rfl (qs := []) rfl rfl (fun w => by go_simp) (v := .agg #[.slice none 0 0, .slice none 0 0, .slice none 0 0, .int .i64 0, .int .i64 0])) ?_
        refine Gx.eff0 rfl rfl (eff_store rfl Try.ty28 rfl rfl (us := [.slice none 0 0, .slice none 0 0, .slice none 0 0, .int .i64 0, .int .i64 0]) rfl rfl rfl (k := 0) rfl (rfl) (vs' := [.slice none 0 0, .slice none 0 0, .slice none 0 0, .int .i64 0, .int .i64 0]) (rfl) (l' := [Hp.rec_ b1 [.slice none 0 0, .slice none 0 0, .slice none 0 0, .int .i64 0, .int .i64 0]]) rfl) ?_
        rintro _ _ rfl
        refine Gx.val rfl rfl rfl (val_assign rfl rfl) ?_
        refine Gx.done ?_
        refine Gx.thenN ?_
        refine Gx.ret ?_
        refine Gx.thenR ?_
        refine Gx.retC2 Try.results7 Try.ty28 rfl rfl (us := [.slice none 0 0, .slice none 0 0, .slice none 0 0, .int .i64 0, .int .i64 0]) rfl (k := 0) rfl rfl ?_
        rfl
      · exfalso; omega

theorem play_no3 {W : World} {n L : Nat} {f d : Int} {sv : Value} {cs : List Mv} (hs : SlS FM 6 W sv cs) (h1n : 1 ≤ n) (h7n : n ≤ 7) (hcl : cs.length ≤ 120) (hbad : f < 0 ∨ ((n - 1) / 3 : Nat) < f) :
    Calls Try.prog 7 #[.int .i64 ((n : Nat) : Int), .int .i64 f, .int .u32 ((L : Nat) : Int), .int .i64 d, sv] W fun e w' => e = .returned (.tuple #[.agg #[.slice none 0 0, .slice none 0 0, .slice none 0 0, .int .i64 0, .int .i64 0], .int .i64 3]) ∧ Below W.heap.size W w' := by
  refine calls_pure (Gx.enter (l := []) Try.func7 rfl Try.ntmps7 rfl (Sat.start W) ?_)
  refine Gx.know (m' := [(0, .int .i64 ((n : Nat) : Int)), (1, .int .i64 f), (2, .int .u32 ((L : Nat) : Int)), (3, .int .i64 d), (4, sv)]) (.cons rfl (.cons rfl (.cons rfl (.cons rfl (.cons rfl .nil))))) ?_
  refine Gx.seq ?_
  refine Gx.region ?_
  refine Gx.eff rfl rfl rfl (eff_alloc rfl Try.ty28 (vs := [.slice none 0 0, .slice none 0 0, .slice none 0 0, .int .i64 0, .int .i64 0]) rfl) ?_
  rintro _ _ ⟨b1, rfl, rfl⟩
  refine Gx.val rfl rfl rfl (val_assign rfl rfl) ?_
  refine Gx.done ?_
  refine Gx.thenN ?_
  refine Gx.seq ?_
  refine Gx.seq ?_
  refine Gx.region ?_
  refine Gx.val rfl rfl rfl (val_move rfl rfl) ?_
  refine Gx.val rfl rfl rfl (val_lss rfl rfl rfl) ?_
  refine Gx.val rfl rfl rfl (val_move rfl rfl) ?_
  refine Gx.slot (t := 21) (v := .bool false) (look_decF rfl (by omega)) ?_
  refine Gx.valg rfl rfl rfl rfl rfl (val_move rfl rfl) ?_
  refine Gx.valg rfl rfl rfl rfl rfl (val_gtr rfl rfl rfl) ?_
  refine Gx.val rfl rfl rfl (val_pickF rfl rfl rfl) ?_
  refine Gx.val rfl rfl rfl (val_move rfl rfl) ?_
  refine Gx.slot (t := 25) (v := .bool false) (look_decF rfl (by omega)) ?_
  refine Gx.valg rfl rfl rfl rfl rfl (val_move rfl rfl) ?_
  refine Gx.valg rfl rfl rfl rfl rfl (val_len rfl Try.underlying23 rfl (len_base hs)) ?_
  refine Gx.valg rfl rfl rfl rfl rfl (val_gtr rfl rfl rfl) ?_
  refine Gx.val rfl rfl rfl (val_pickF rfl rfl rfl) ?_
  refine Gx.done ?_
  refine Gx.thenN ?_
  refine Gx.decF rfl (by omega) ?_
  refine Gx.skip ?_
  refine Gx.thenN ?_
  refine Gx.seq ?_
  refine Gx.seq ?_
  refine Gx.region ?_
  refine Gx.val rfl rfl rfl (val_move rfl rfl) ?_
  refine Gx.val rfl rfl rfl (val_lss rfl rfl rfl) ?_
  refine Gx.val rfl rfl rfl (val_move rfl rfl) ?_
  refine Gx.cases (t := 33) rfl (fun h2 => ?_) (fun h2 => ?_)
  · refine Gx.skipg rfl rfl rfl rfl rfl rfl ?_
    refine Gx.skipg rfl rfl rfl rfl rfl rfl ?_
    refine Gx.skipg rfl rfl rfl rfl rfl rfl ?_
    refine Gx.skipg rfl rfl rfl rfl rfl rfl ?_
    refine Gx.skipg rfl rfl rfl rfl rfl rfl ?_
    refine Gx.val rfl rfl rfl (val_pickT rfl rfl rfl) ?_
    refine Gx.done ?_
    refine Gx.thenN ?_
    refine Gx.t rfl ?_
    refine Gx.seq ?_
    refine Gx.region ?_
    refine Gx.val rfl rfl rfl (val_build rfl (qs := []) rfl rfl (fun w => by go_simp) (v := .agg #[.slice none 0 0, .slice none 0 0, .slice none 0 0, .int .i64 0, .int .i64 0])) ?_
    refine Gx.eff0 rfl rfl (eff_store rfl Try.ty28 rfl rfl (us := [.slice none 0 0, .slice none 0 0, .slice none 0 0, .int .i64 0, .int .i64 0]) rfl rfl rfl (k := 0) rfl (rfl) (vs' := [.slice none 0 0, .slice none 0 0, .slice none 0 0, .int .i64 0, .int .i64 0]) (rfl) (l' := [Hp.rec_ b1 [.slice none 0 0, .slice none 0 0, .slice none 0 0, .int .i64 0, .int .i64 0]]) rfl) ?_
    rintro _ _ rfl
    refine Gx.val rfl rfl rfl (val_assign rfl rfl) ?_
    refine Gx.done ?_
    refine Gx.thenN ?_
    refine Gx.ret ?_
    refine Gx.thenR ?_
    refine Gx.retC2 Try.results7 Try.ty28 rfl rfl (us := [.slice none 0 0, .slice none 0 0, .slice none 0 0, .int .i64 0, .int .i64 0]) rfl (k := 0) rfl rfl ?_
    rfl
  · refine Gx.valg rfl rfl rfl rfl rfl (val_move rfl rfl) ?_
    refine Gx.valg rfl rfl rfl rfl rfl (val_move rfl rfl) ?_
    refine Gx.valg rfl rfl rfl rfl rfl (val_sub rfl rfl rfl (r := ((n - 1 : Nat) : Int)) (w64 (by omega) (by omega))) ?_
    refine Gx.valg rfl rfl rfl rfl rfl (val_quo rfl rfl rfl (r := (((n - 1) / 3 : Nat) : Int)) (by omega) (w64 (by rw [Int.tdiv_eq_ediv_of_nonneg (by omega)]; omega) (by omega))) ?_
    refine Gx.valg rfl rfl rfl rfl rfl (val_gtr rfl rfl rfl) ?_
    refine Gx.val rfl rfl rfl (val_pickF rfl rfl rfl) ?_
    refine Gx.done ?_
    refine Gx.thenN ?_
    refine Gx.dec rfl (fun h3 => ?_) (fun h3 => ?_)
    · refine Gx.seq ?_
      refine Gx.region ?_
      refine Gx.val rfl rfl rfl (val_build rfl (qs := []) rfl rfl (fun w => by go_simp) (v := .agg #[.slice none 0 0, .slice none 0 0, .slice none 0 0, .int .i64 0, .int .i64 0])) ?_
      refine Gx.eff0 rfl rfl (eff_store rfl Try.ty28 rfl rfl (us := [.slice none 0 0, .slice none 0 0, .slice none 0 0, .int .i64 0, .int .i64 0]) rfl rfl rfl (k := 0) rfl (rfl) (vs' := [.slice none 0 0, .slice none 0 0, .slice none 0 0, .int .i64 0, .int .i64 0]) (rfl) (l' := [Hp.rec_ b1 [.slice none 0 0, .slice none 0 0, .slice none 0 0, .int .i64 0, .int .i64 0]]) rfl) ?_
      rintro _ _ rfl
      refine Gx.val rfl rfl rfl (val_assign rfl rfl) ?_
      refine Gx.done ?_
      refine Gx.thenN ?_
      refine Gx.ret ?_
      refine Gx.thenR ?_
      refine Gx.retC2 Try.results7 Try.ty28 rfl rfl (us := [.slice none 0 0, .slice none 0 0, .slice none 0 0, .int .i64 0, .int .i64 0]) rfl (k := 0) rfl rfl ?_
      rfl
    · exfalso; omega

theorem play_no2 {W : World} {n f L : Nat} {d : Int} {sv : Value} {cs : List Mv} (hs : SlS FM 6 W sv cs) (h1n : 1 ≤ n) (h7n : n ≤ 7) (hcl : cs.length ≤ 120) (hf : f ≤ (n - 1) / 3) (hbad : L >>> n ≠ 0 ∨ d < 0 ∨ n ≤ d) :
    Calls Try.prog 7 #[.int .i64 ((n : Nat) : Int), .int .i64 ((f : Nat) : Int), .int .u32 ((L : Nat) : Int), .int .i64 d, sv] W fun e w' => e = .returned (.tuple #[.agg #[.slice none 0 0, .slice none 0 0, .slice none 0 0, .int .i64 0, .int .i64 0], .int .i64 2]) ∧ Below W.heap.size W w' := by
  refine calls_pure (Gx.enter (l := []) Try.func7 rfl Try.ntmps7 rfl (Sat.start W) ?_)
  refine Gx.know (m' := [(0, .int .i64 ((n : Nat) : Int)), (1, .int .i64 ((f : Nat) : Int)), (2, .int .u32 ((L : Nat) : Int)), (3, .int .i64 d), (4, sv)]) (.cons rfl (.cons rfl (.cons rfl (.cons rfl (.cons rfl .nil))))) ?_
  refine Gx.seq ?_
  refine Gx.region ?_
  refine Gx.eff rfl rfl rfl (eff_alloc rfl Try.ty28 (vs := [.slice none 0 0, .slice none 0 0, .slice none 0 0, .int .i64 0, .int .i64 0]) rfl) ?_
  rintro _ _ ⟨b1, rfl, rfl⟩
  refine Gx.val rfl rfl rfl (val_assign rfl rfl) ?_
  refine Gx.done ?_
  refine Gx.thenN ?_
  refine Gx.seq ?_
  refine Gx.seq ?_
  refine Gx.region ?_
  refine Gx.val rfl rfl rfl (val_move rfl rfl) ?_
  refine Gx.val rfl rfl rfl (val_lss rfl rfl rfl) ?_
  refine Gx.val rfl rfl rfl (val_move rfl rfl) ?_
  refine Gx.slot (t := 21) (v := .bool false) (look_decF rfl (by omega)) ?_
  refine Gx.valg rfl rfl rfl rfl rfl (val_move rfl rfl) ?_
  refine Gx.valg rfl rfl rfl rfl rfl (val_gtr rfl rfl rfl) ?_
  refine Gx.val rfl rfl rfl (val_pickF rfl rfl rfl) ?_
  refine Gx.val rfl rfl rfl (val_move rfl rfl) ?_
  refine Gx.slot (t := 25) (v := .bool false) (look_decF rfl (by omega)) ?_
  refine Gx.valg rfl rfl rfl rfl rfl (val_move rfl rfl) ?_
  refine Gx.valg rfl rfl rfl rfl rfl (val_len rfl Try.underlying23 rfl (len_base hs)) ?_
  refine Gx.valg rfl rfl rfl rfl rfl (val_gtr rfl rfl rfl) ?_
  refine Gx.val rfl rfl rfl (val_pickF rfl rfl rfl) ?_
  refine Gx.done ?_
  refine Gx.thenN ?_
  refine Gx.decF rfl (by omega) ?_
  refine Gx.skip ?_
  refine Gx.thenN ?_
  refine Gx.seq ?_
  refine Gx.seq ?_
  refine Gx.region ?_
  refine Gx.val rfl rfl rfl (val_move rfl rfl) ?_
  refine Gx.val rfl rfl rfl (val_lss rfl rfl rfl) ?_
  refine Gx.val rfl rfl rfl (val_move rfl rfl) ?_
  refine Gx.slot (t := 33) (v := .bool false) (look_decF rfl (by omega)) ?_
  refine Gx.valg rfl rfl rfl rfl rfl (val_move rfl rfl) ?_
  refine Gx.valg rfl rfl rfl rfl rfl (val_move rfl rfl) ?_
  refine Gx.valg rfl rfl rfl rfl rfl (val_sub rfl rfl rfl (r := ((n - 1 : Nat) : Int)) (w64 (by omega) (by omega))) ?_
  refine Gx.valg rfl rfl rfl rfl rfl (val_quo rfl rfl rfl (r := (((n - 1) / 3 : Nat) : Int)) (by omega) (w64 (by rw [Int.tdiv_eq_ediv_of_nonneg (by omega)]; omega) (by omega))) ?_
  refine Gx.valg rfl rfl rfl rfl rfl (val_gtr rfl rfl rfl) ?_
  refine Gx.val rfl rfl rfl (val_pickF rfl rfl rfl) ?_
  refine Gx.done ?_
  refine Gx.thenN ?_
  refine Gx.decF rfl (by omega) ?_
  refine Gx.skip ?_
  refine Gx.thenN ?_
  refine Gx.seq ?_
  refine Gx.seq ?_
  refine Gx.region ?_
  refine Gx.val rfl rfl rfl (val_move rfl rfl) ?_
  refine Gx.val rfl rfl rfl (val_move rfl rfl) ?_
  refine Gx.val rfl rfl rfl (val_shr (b := n) rfl rfl rfl rfl (by show n ≤ 32; omega) (shr32 _ _)) ?_
  refine Gx.val rfl rfl rfl (val_neq rfl rfl rfl) ?_
  refine Gx.val rfl rfl rfl (val_move rfl rfl) ?_
  refine Gx.cases (t := 45) rfl (fun h2 => ?_) (fun h2 => ?_)
  · refine Gx.skipg rfl rfl rfl rfl rfl rfl ?_
    refine Gx.skipg rfl rfl rfl rfl rfl rfl ?_
    refine Gx.val rfl rfl rfl (val_pickT rfl rfl rfl) ?_
    refine Gx.val rfl rfl rfl (val_move rfl rfl) ?_
    refine Gx.skipg rfl rfl rfl rfl rfl rfl ?_
    refine Gx.skipg rfl rfl rfl rfl rfl rfl ?_
    refine Gx.skipg rfl rfl rfl rfl rfl rfl ?_
    refine Gx.val rfl rfl rfl (val_pickT rfl rfl rfl) ?_
    refine Gx.done ?_
    refine Gx.thenN ?_
    refine Gx.t rfl ?_
    refine Gx.seq ?_
    refine Gx.region ?_
    refine Gx.val rfl rfl rfl (val_build rfl (qs := []) rfl rfl (fun w => by go_simp) (v := .agg #[.slice none 0 0, .slice none 0 0, .slice none 0 0, .int .i64 0, .int .i64 0])) ?_
    refine Gx.eff0 rfl rfl (eff_store rfl Try.ty28 rfl rfl (us := [.slice none 0 0, .slice none 0 0, .slice none 0 0, .int .i64 0, .int .i64 0]) rfl rfl rfl (k := 0) rfl (rfl) (vs' := [.slice none 0 0, .slice none 0 0, .slice none 0 0, .int .i64 0, .int .i64 0]) (rfl) (l' := [Hp.rec_ b1 [.slice none 0 0, .slice none 0 0, .slice none 0 0, .int .i64 0, .int .i64 0]]) rfl) ?_
    rintro _ _ rfl
    refine Gx.val rfl rfl rfl (val_assign rfl rfl) ?_
    refine Gx.done ?_
    refine Gx.thenN ?_
    refine Gx.ret ?_
    refine Gx.thenR ?_
    refine Gx.retC2 Try.results7 Try.ty28 rfl rfl (us := [.slice none 0 0, .slice none 0 0, .slice none 0 0, .int .i64 0, .int .i64 0]) rfl (k := 0) rfl rfl ?_
    rfl
  · refine Gx.valg rfl rfl rfl rfl rfl (val_move rfl rfl) ?_
    refine Gx.valg rfl rfl rfl rfl rfl (val_lss rfl rfl rfl) ?_
    refine Gx.val rfl rfl rfl (val_pickF rfl rfl rfl) ?_
    refine Gx.val rfl rfl rfl (val_move rfl rfl) ?_
    refine Gx.cases (t := 49) rfl (fun h3 => ?_) (fun h3 => ?_)
    · refine Gx.skipg rfl rfl rfl rfl rfl rfl ?_
      refine Gx.skipg rfl rfl rfl rfl rfl rfl ?_
      refine Gx.skipg rfl rfl rfl rfl rfl rfl ?_
      refine Gx.val rfl rfl rfl (val_pickT rfl rfl rfl) ?_
      refine Gx.done ?_
      refine Gx.thenN ?_
      refine Gx.t rfl ?_
      refine Gx.seq ?_
      refine Gx.region ?_
      refine Gx.val rfl rfl rfl (val_build rfl (qs := []) rfl rfl (fun w => by go_simp) (v := .agg #[.slice none 0 0, .slice none 0 0, .slice none 0 0, .int .i64 0, .int .i64 0])) ?_
      refine Gx.eff0 rfl rfl (eff_store rfl Try.ty28 rfl rfl (us := [.slice none 0 0, .slice none 0 0, .slice none 0 0, .int .i64 0, .int .i64 0]) rfl rfl rfl (k := 0) rfl (rfl) (vs' := [.slice none 0 0, .slice none 0 0, .slice none 0 0, .int .i64 0, .int .i64 0]) (rfl) (l' := [Hp.rec_ b1 [.slice none 0 0, .slice none 0 0, .slice none 0 0, .int .i64 0, .int .i64 0]]) rfl) ?_
      rintro _ _ rfl
      refine Gx.val rfl rfl rfl (val_assign rfl rfl) ?_
      refine Gx.done ?_
      refine Gx.thenN ?_
      refine Gx.ret ?_
      refine Gx.thenR ?_
      refine Gx.retC2 Try.results7 Try.ty28 rfl rfl (us := [.slice none 0 0, .slice none 0 0, .slice none 0 0, .int .i64 0, .int .i64 0]) rfl (k := 0) rfl rfl ?_
      rfl
    · refine Gx.valg rfl rfl rfl rfl rfl (val_move rfl rfl) ?_
      refine Gx.valg rfl rfl rfl rfl rfl (val_move rfl rfl) ?_
      refine Gx.valg rfl rfl rfl rfl rfl (val_geq rfl rfl rfl) ?_
      refine Gx.val rfl rfl rfl (val_pickF rfl rfl rfl) ?_
      refine Gx.done ?_
      refine Gx.thenN ?_
      refine Gx.dec rfl (fun h4 => ?_) (fun h4 => ?_)
      · refine Gx.seq ?_
        refine Gx.region ?_
        refine Gx.val rfl rfl rfl (val_build rfl (qs := []) rfl rfl (fun w => by go_simp) (v := .agg #[.slice none 0 0, .slice none 0 0, .slice none 0 0, .int .i64 0, .int .i64 0])) ?_
        refine Gx.eff0 rfl rfl (eff_store rfl Try.ty28 rfl rfl (us := [.slice none 0 0, .slice none 0 0, .slice none 0 0, .int .i64 0, .int .i64 0]) rfl rfl rfl (k := 0) rfl (rfl) (vs' := [.slice none 0 0, .slice none 0 0, .slice none 0 0, .int .i64 0, .int .i64 0]) (rfl) (l' := [Hp.rec_ b1 [.slice none 0 0, .slice none 0 0, .slice none 0 0, .int .i64 0, .int .i64 0]]) rfl) ?_
        rintro _ _ rfl
        refine Gx.val rfl rfl rfl (val_assign rfl rfl) ?_
        refine Gx.done ?_
        refine Gx.thenN ?_
        refine Gx.ret ?_
        refine Gx.thenR ?_
        refine Gx.retC2 Try.results7 Try.ty28 rfl rfl (us := [.slice none 0 0, .slice none 0 0, .slice none 0 0, .int .i64 0, .int .i64 0]) rfl (k := 0) rfl rfl ?_
        rfl
      · exfalso; omega

theorem play_ok {W : World} {c : Cf} {sv : Value} {cs : List Mv} (hs : SlS FM 6 W sv cs) (h1n : 1 ≤ c.n) (h7n : c.n ≤ 7) (hcl : cs.length ≤ 120) (hf : c.f ≤ (c.n - 1) / 3) (hLn : c.L >>> c.n = 0) (hL : c.L < 4294967296) (hsn : c.snd < c.n) :
    Calls Try.prog 7 #[.int .i64 ((c.n : Nat) : Int), .int .i64 ((c.f : Nat) : Int), .int .u32 ((c.L : Nat) : Int), .int .i64 ((c.snd : Nat) : Int), sv] W fun e w' => ∃ v, e = .returned v ∧ (∃ (cv wv uv : Value), v = .tuple #[.agg #[cv, wv, uv, .int .i64 (((stB c (bs0 c.n) cs).all.length : Nat) : Int), .int .i64 ((notC (stB c (bs0 c.n) cs).all : Nat) : Int)], .int .i64 0] ∧ SlS FZ 1 w' cv (codesB c (bs0 c.n) cs) ∧ SlS FB 1 w' wv ((stB c (bs0 c.n) cs).ps.map Pr.has) ∧ SlS FI 1 w' uv ((stB c (bs0 c.n) cs).ps.map Pr.val)) ∧ Below W.heap.size W w' := by
  have hnn7 : c.n * (2 * c.n) ≤ 7 * 14 := Nat.mul_le_mul h7n (by omega)
  refine calls_some (S := fun v l => ∃ (cv wv uv : Value) (P : Hp), v = .tuple #[.agg #[cv, wv, uv, .int .i64 (((stB c (bs0 c.n) cs).all.length : Nat) : Int), .int .i64 ((notC (stB c (bs0 c.n) cs).all : Nat) : Int)], .int .i64 0] ∧ l = [Hp.own FZ 1 cv (codesB c (bs0 c.n) cs), Hp.own FB 1 wv ((stB c (bs0 c.n) cs).ps.map Pr.has), Hp.own FI 1 uv ((stB c (bs0 c.n) cs).ps.map Pr.val), P]) (Gx.enter (l := []) Try.func7 rfl Try.ntmps7 rfl (Sat.start W) ?_) ?_
  refine Gx.know (m' := [(0, .int .i64 ((c.n : Nat) : Int)), (1, .int .i64 ((c.f : Nat) : Int)), (2, .int .u32 ((c.L : Nat) : Int)), (3, .int .i64 ((c.snd : Nat) : Int)), (4, sv)]) (.cons rfl (.cons rfl (.cons rfl (.cons rfl (.cons rfl .nil))))) ?_
  refine Gx.seq ?_
  refine Gx.region ?_
  refine Gx.eff rfl rfl rfl (eff_alloc rfl Try.ty28 (vs := [.slice none 0 0, .slice none 0 0, .slice none 0 0, .int .i64 0, .int .i64 0]) rfl) ?_
  rintro _ _ ⟨b1, rfl, rfl⟩
  refine Gx.val rfl rfl rfl (val_assign rfl rfl) ?_
  refine Gx.done ?_
  refine Gx.thenN ?_
  refine Gx.seq ?_
  refine Gx.seq ?_
  refine Gx.region ?_
  refine Gx.val rfl rfl rfl (val_move rfl rfl) ?_
  refine Gx.val rfl rfl rfl (val_lss rfl rfl rfl) ?_
  refine Gx.val rfl rfl rfl (val_move rfl rfl) ?_
  refine Gx.slot (t := 21) (v := .bool false) (look_decF rfl (by omega)) ?_
  refine Gx.valg rfl rfl rfl rfl rfl (val_move rfl rfl) ?_
  refine Gx.valg rfl rfl rfl rfl rfl (val_gtr rfl rfl rfl) ?_
  refine Gx.val rfl rfl rfl (val_pickF rfl rfl rfl) ?_
  refine Gx.val rfl rfl rfl (val_move rfl rfl) ?_
  refine Gx.slot (t := 25) (v := .bool false) (look_decF rfl (by omega)) ?_
  refine Gx.valg rfl rfl rfl rfl rfl (val_move rfl rfl) ?_
  refine Gx.valg rfl rfl rfl rfl rfl (val_len rfl Try.underlying23 rfl (len_base hs)) ?_
  refine Gx.valg rfl rfl rfl rfl rfl (val_gtr rfl rfl rfl) ?_
  refine Gx.val rfl rfl rfl (val_pickF rfl rfl rfl) ?_
  refine Gx.done ?_
  refine Gx.thenN ?_
  refine Gx.decF rfl (by omega) ?_
  refine Gx.skip ?_
  refine Gx.thenN ?_
  refine Gx.seq ?_
  refine Gx.seq ?_
  refine Gx.region ?_
  refine Gx.val rfl rfl rfl (val_move rfl rfl) ?_
  refine Gx.val rfl rfl rfl (val_lss rfl rfl rfl) ?_
  refine Gx.val rfl rfl rfl (val_move rfl rfl) ?_
  refine Gx.slot (t := 33) (v := .bool false) (look_decF rfl (by omega)) ?_
  refine Gx.valg rfl rfl rfl rfl rfl (val_move rfl rfl) ?_
  refine Gx.valg rfl rfl rfl rfl rfl (val_move rfl rfl) ?_
  refine Gx.valg rfl rfl rfl rfl rfl (val_sub rfl rfl rfl (r := ((c.n - 1 : Nat) : Int)) (w64 (by omega) (by omega))) ?_
  refine Gx.valg rfl rfl rfl rfl rfl (val_quo rfl rfl rfl (r := (((c.n - 1) / 3 : Nat) : Int)) (by omega) (w64 (by rw [Int.tdiv_eq_ediv_of_nonneg (by omega)]; omega) (by omega))) ?_
  refine Gx.valg rfl rfl rfl rfl rfl (val_gtr rfl rfl rfl) ?_
  refine Gx.val rfl rfl rfl (val_pickF rfl rfl rfl) ?_
  refine Gx.done ?_
  refine Gx.thenN ?_
  refine Gx.decF rfl (by omega) ?_
  refine Gx.skip ?_
  refine Gx.thenN ?_
  refine Gx.seq ?_
  refine Gx.seq ?_
  refine Gx.region ?_
  refine Gx.val rfl rfl rfl (val_move rfl rfl) ?_
  refine Gx.val rfl rfl rfl (val_move rfl rfl) ?_
  refine Gx.val rfl rfl rfl (val_shr (b := c.n) rfl rfl rfl rfl (by show c.n ≤ 32; omega) (shr32 _ _)) ?_
  refine Gx.val rfl rfl rfl (val_neq rfl rfl rfl) ?_
  refine Gx.val rfl rfl rfl (val_move rfl rfl) ?_
  refine Gx.slot (t := 45) (v := .bool false) (look_decF rfl (by omega)) ?_
  refine Gx.valg rfl rfl rfl rfl rfl (val_move rfl rfl) ?_
  refine Gx.valg rfl rfl rfl rfl rfl (val_lss rfl rfl rfl) ?_
  refine Gx.val rfl rfl rfl (val_pickF rfl rfl rfl) ?_
  refine Gx.val rfl rfl rfl (val_move rfl rfl) ?_
  refine Gx.slot (t := 49) (v := .bool false) (look_decF rfl (by omega)) ?_
  refine Gx.valg rfl rfl rfl rfl rfl (val_move rfl rfl) ?_
  refine Gx.valg rfl rfl rfl rfl rfl (val_move rfl rfl) ?_
  refine Gx.valg rfl rfl rfl rfl rfl (val_geq rfl rfl rfl) ?_
  refine Gx.val rfl rfl rfl (val_pickF rfl rfl rfl) ?_
  refine Gx.done ?_
  refine Gx.thenN ?_
  refine Gx.decF rfl (by omega) ?_
  refine Gx.skip ?_
  refine Gx.thenN ?_
  refine Gx.seq ?_
  refine Gx.region ?_
  refine Gx.val rfl rfl rfl (val_move rfl rfl) ?_
  refine Gx.val rfl rfl rfl (val_move rfl rfl) ?_
  refine Gx.val rfl rfl rfl (val_move rfl rfl) ?_
  refine Gx.val rfl rfl rfl (val_move rfl rfl) ?_
  refine Gx.val rfl rfl rfl (val_build rfl (qs := [(0, .int .i64 ((c.n : Nat) : Int)), (1, .int .i64 ((c.f : Nat) : Int)), (2, .int .u32 ((c.L : Nat) : Int)), (3, .int .i64 ((c.snd : Nat) : Int))]) rfl rfl (fun w => by go_simp) (v := .agg #[.int .i64 ((c.n : Nat) : Int), .int .i64 ((c.f : Nat) : Int), .int .u32 ((c.L : Nat) : Int), .int .i64 ((c.snd : Nat) : Int), .slice none 0 0, .slice none 0 0, .bool false])) ?_
  refine Gx.eff rfl rfl rfl (eff_box rfl rfl (vs := [.int .i64 ((c.n : Nat) : Int), .int .i64 ((c.f : Nat) : Int), .int .u32 ((c.L : Nat) : Int), .int .i64 ((c.snd : Nat) : Int), .slice none 0 0, .slice none 0 0, .bool false]) rfl) ?_
  rintro _ _ ⟨b2, rfl, rfl⟩
  refine Gx.val rfl rfl rfl (val_assign rfl rfl) ?_
  refine Gx.done ?_
  refine Gx.thenN ?_
  refine Gx.seq ?_
  refine Gx.seq ?_
  refine Gx.ownNil FR 5 ?_
  refine Gx.emp ?_
  refine Gx.norm (l' := [Hp.big rowH ([] : List Pm), Hp.own FR 5 (.slice none 0 0) ([]), Hp.rec_ b2 [.int .i64 ((c.n : Nat) : Int), .int .i64 ((c.f : Nat) : Int), .int .u32 ((c.L : Nat) : Int), .int .i64 ((c.snd : Nat) : Int), .slice none 0 0, .slice none 0 0, .bool false], Hp.rec_ b1 [.slice none 0 0, .slice none 0 0, .slice none 0 0, .int .i64 0, .int .i64 0]]) rfl ?_
  refine Gx.region ?_
  refine Gx.val rfl rfl rfl (val_move rfl rfl) ?_
  refine Gx.val rfl rfl rfl (val_move rfl rfl) ?_
  refine Gx.done ?_
  refine Gx.thenN ?_
  refine Gx.block ?_
  refine Gx.loop (ι := Nat × Value × (List Pm)) (fun ξ => (ξ.1 ≤ c.n) ∧ (ξ.2.2.map Pm.p = List.replicate ξ.1 (⟨[], false, false, false, 0⟩ : Pr)) ∧ (IsS ξ.2.1) ∧ (ξ.2.2.length = ξ.1)) (fun ξ => [(10, ptr b1 0), (12, ptr b2 0), (4, sv), (61, .int .i64 ((c.n : Nat) : Int)), (62, .int .i64 ((ξ.1 : Nat) : Int))]) (fun ξ => [Hp.big rowH ξ.2.2, Hp.own FR 5 ξ.2.1 ξ.2.2, Hp.rec_ b2 [.int .i64 ((c.n : Nat) : Int), .int .i64 ((c.f : Nat) : Int), .int .u32 ((c.L : Nat) : Int), .int .i64 ((c.snd : Nat) : Int), .slice none 0 0, ξ.2.1, .bool false], Hp.rec_ b1 [.slice none 0 0, .slice none 0 0, .slice none 0 0, .int .i64 0, .int .i64 0]]) (fun ξ => c.n - ξ.1) (0, (.slice none 0 0), ([] : List Pm)) ⟨by first | omega | (dsimp only; omega), rfl, ⟨none, 0, 0, rfl⟩, rfl⟩ ((.cons rfl (.cons rfl (.cons rfl (.cons rfl (.cons rfl .nil)))))) rfl ?_
  rintro ⟨k, pv, pms⟩ ⟨hk, hpm, hipv, hpl⟩
  dsimp only at hk hpm hipv hpl
  refine Gx.know (m' := [(10, ptr b1 0), (12, ptr b2 0), (4, sv), (61, .int .i64 ((c.n : Nat) : Int)), (62, .int .i64 ((k : Nat) : Int))]) (.cons rfl (.cons rfl (.cons rfl (.cons rfl (.cons rfl .nil))))) (Gx.norm (l' := [Hp.big rowH pms, Hp.own FR 5 pv pms, Hp.rec_ b2 [.int .i64 ((c.n : Nat) : Int), .int .i64 ((c.f : Nat) : Int), .int .u32 ((c.L : Nat) : Int), .int .i64 ((c.snd : Nat) : Int), .slice none 0 0, pv, .bool false], Hp.rec_ b1 [.slice none 0 0, .slice none 0 0, .slice none 0 0, .int .i64 0, .int .i64 0]]) rfl ?_)
  refine Gx.seq ?_
  refine Gx.region ?_
  refine Gx.val rfl rfl rfl (val_lss rfl rfl rfl) ?_
  refine Gx.done ?_
  refine Gx.thenN ?_
  refine Gx.seq ?_
  refine Gx.dec rfl (fun h3 => ?_) (fun h3 => ?_)
  · refine Gx.skip ?_
    refine Gx.thenN ?_
    refine Gx.seq ?_
    refine Gx.block ?_
    refine Gx.region ?_
    refine Gx.val rfl rfl rfl (val_move rfl rfl) ?_
    refine Gx.val rfl rfl rfl (val_move rfl rfl) ?_
    refine Gx.val rfl rfl rfl (val_nilCheck rfl rfl) ?_
    refine Gx.val rfl rfl rfl (Val.cast (val_fieldAddr rfl Try.underlying42 rfl Try.ty40 rfl rfl) (v' := ptr b2 5) rfl) ?_
    refine Gx.val rfl rfl rfl (val_load rfl Try.ty40 rfl rfl (cell_rec (k := 2) rfl rfl)) ?_
    refine Gx.eff rfl rfl rfl (eff_makeMap 60 pairL vI rfl) ?_
    rintro _ _ ⟨b4, rfl, rfl⟩
    refine Gx.val rfl rfl rfl (val_build rfl (qs := [(0, .map (some b4))]) rfl rfl (fun w => by go_simp) (v := .agg #[.map (some b4), .bool false, .bool false, .bool false, .int .i64 0])) ?_
    refine Gx.eff rfl rfl rfl (eff_buildSlice rfl (qs := [(0, .agg #[.map (some b4), .bool false, .bool false, .bool false, .int .i64 0])]) rfl rfl (cs := #[.map (some b4), .bool false, .bool false, .bool false, .int .i64 0]) (vs := [.map (some b4), .bool false, .bool false, .bool false, .int .i64 0]) (E := 45) rfl (fun w => by first | (go_simp; done) | (go_simp; rfl))) ?_
    rintro _ _ ⟨b5, rfl, rfl⟩
    refine Gx.eff rfl rfl rfl (eff_push (r := (⟨b4, (⟨[], false, false, false, 0⟩ : Pr)⟩ : Pm)) rfl Try.eR FR_len FR_one rfl rfl (k := 0) rfl rfl (k' := 2) rfl (by omega) (by omega)) ?_
    rintro v6 _ ⟨hiv6, rfl⟩
    refine Gx.norm (l' := [Hp.map Try.prog 60 pairL vI b4 ([]), Hp.big rowH pms, Hp.own FR 5 v6 (pms ++ [(⟨b4, (⟨[], false, false, false, 0⟩ : Pr)⟩ : Pm)]), Hp.rec_ b2 [.int .i64 ((c.n : Nat) : Int), .int .i64 ((c.f : Nat) : Int), .int .u32 ((c.L : Nat) : Int), .int .i64 ((c.snd : Nat) : Int), .slice none 0 0, pv, .bool false], Hp.rec_ b1 [.slice none 0 0, .slice none 0 0, .slice none 0 0, .int .i64 0, .int .i64 0]]) rfl ?_
    refine Gx.val rfl rfl rfl (val_nilCheck rfl rfl) ?_
    refine Gx.val rfl rfl rfl (Val.cast (val_fieldAddr rfl Try.underlying42 rfl Try.ty40 rfl rfl) (v' := ptr b2 5) rfl) ?_
    refine Gx.eff0 rfl rfl (eff_store rfl Try.ty40 rfl rfl (us := [v6]) hiv6.cellsL rfl hiv6.all (k := 3) rfl (rfl) (vs' := [.int .i64 ((c.n : Nat) : Int), .int .i64 ((c.f : Nat) : Int), .int .u32 ((c.L : Nat) : Int), .int .i64 ((c.snd : Nat) : Int), .slice none 0 0, v6, .bool false]) (rfl) (l' := [Hp.map Try.prog 60 pairL vI b4 ([]), Hp.big rowH pms, Hp.own FR 5 v6 (pms ++ [(⟨b4, (⟨[], false, false, false, 0⟩ : Pr)⟩ : Pm)]), Hp.rec_ b2 [.int .i64 ((c.n : Nat) : Int), .int .i64 ((c.f : Nat) : Int), .int .u32 ((c.L : Nat) : Int), .int .i64 ((c.snd : Nat) : Int), .slice none 0 0, v6, .bool false], Hp.rec_ b1 [.slice none 0 0, .slice none 0 0, .slice none 0 0, .int .i64 0, .int .i64 0]]) rfl) ?_
    rintro _ _ rfl
    refine Gx.done ?_
    refine Gx.blkN ?_
    refine Gx.thenN ?_
    refine Gx.front 0 rfl ?_
    refine Gx.front 1 rfl ?_
    refine Gx.sepEq (l' := [Hp.big rowH (pms ++ [(⟨b4, (⟨[], false, false, false, 0⟩ : Pr)⟩ : Pm)]), Hp.own FR 5 v6 (pms ++ [(⟨b4, (⟨[], false, false, false, 0⟩ : Pr)⟩ : Pm)]), Hp.rec_ b2 [.int .i64 ((c.n : Nat) : Int), .int .i64 ((c.f : Nat) : Int), .int .u32 ((c.L : Nat) : Int), .int .i64 ((c.snd : Nat) : Int), .slice none 0 0, v6, .bool false], Hp.rec_ b1 [.slice none 0 0, .slice none 0 0, .slice none 0 0, .int .i64 0, .int .i64 0]]) (by show Hp.big rowH pms * (Hp.map Try.prog 60 pairL vI b4 ([]) * _) = Hp.big rowH (pms ++ [(⟨b4, (⟨[], false, false, false, 0⟩ : Pr)⟩ : Pm)]) * _; rw [Hp.big_append]; show _ = (_ * (Hp.map Try.prog 60 pairL vI b4 ([]) * 1)) * _; rw [Hp.mul_one]; simp only [Hp.mul_assoc]; rfl) ?_
    refine Gx.region ?_
    refine Gx.val rfl rfl rfl (val_add rfl rfl rfl (r := ((k + 1 : Nat) : Int)) (w64 (by omega) (by omega))) ?_
    refine Gx.val rfl rfl rfl (val_move rfl rfl) ?_
    refine Gx.done ?_
    refine Gx.thenN ?_
    skip
    exact Gx.round (k + 1, v6, (pms ++ [(⟨b4, (⟨[], false, false, false, 0⟩ : Pr)⟩ : Pm)])) ⟨by first | omega | (dsimp only; omega), by rw [List.map_append, hpm, List.replicate_succ']; rfl, hiv6, by simp; omega⟩ (by first | omega | (dsimp only; omega)) ((.cons rfl (.cons rfl (.cons rfl (.cons rfl (.cons rfl .nil)))))) rfl
  · refine Gx.exit ?_
    refine Gx.thenE ?_
    refine Gx.thenE ?_
    refine Gx.blkE ?_
    refine Gx.thenN ?_
    refine Gx.seq ?_
    obtain rfl : k = c.n := by omega
    refine Gx.ownNil FG 5 ?_
    refine Gx.front 1 rfl ?_
    refine Gx.front 2 rfl ?_
    refine Gx.front 2 rfl ?_
    refine Gx.front 3 rfl ?_
    refine Gx.sat (l' := [worldH b2 c (bs0 c.n), Hp.rec_ b1 [.slice none 0 0, .slice none 0 0, .slice none 0 0, .int .i64 0, .int .i64 0]]) (fun w H => ?_) ?_
    · exact (worldH.shut (S := b2) (c := c) (s := bs0 c.n) (av := .slice none 0 0) (pv := pv) (pms := pms) (R := sep [Hp.rec_ b1 [.slice none 0 0, .slice none 0 0, .slice none 0 0, .int .i64 0, .int .i64 0]]) hpm (H.cast (by rw [sep4R]; rfl))).cast (by rw [sep1]; rfl)
    refine Gx.region ?_
    refine Gx.eff rfl rfl rfl (eff_alloc rfl Try.ty28 (vs := [.slice none 0 0, .slice none 0 0, .slice none 0 0, .int .i64 0, .int .i64 0]) rfl) ?_
    rintro _ _ ⟨b7, rfl, rfl⟩
    refine Gx.done ?_
    refine Gx.thenN ?_
    refine Gx.seq ?_
    refine Gx.seq ?_
    refine Gx.ownNil FZ 1 ?_
    refine Gx.region ?_
    refine Gx.val rfl rfl rfl (val_move rfl rfl) ?_
    refine Gx.val rfl rfl rfl (val_len rfl Try.underlying23 rfl (len_base hs)) ?_
    refine Gx.val rfl rfl rfl (val_move rfl rfl) ?_
    refine Gx.done ?_
    refine Gx.thenN ?_
    refine Gx.block ?_
    refine Gx.front 2 rfl ?_
    refine Gx.front 3 rfl ?_
    refine Gx.front 3 rfl ?_
    refine Gx.front 3 rfl ?_
    refine Gx.loop (ι := Nat × Value) (fun ξ => (ξ.1 ≤ cs.length) ∧ (IsS ξ.2)) (fun ξ => [(10, ptr b1 0), (12, ptr b2 0), (13, ptr b7 0), (76, sv), (77, .int .i64 ((cs.length : Nat) : Int)), (78, .int .i64 ((ξ.1 : Nat) : Int))]) (fun ξ => [Hp.own FZ 1 ξ.2 (codesB c (bs0 c.n) (cs.take ξ.1)), Hp.rec_ b7 [ξ.2, .slice none 0 0, .slice none 0 0, .int .i64 0, .int .i64 0], Hp.rec_ b1 [.slice none 0 0, .slice none 0 0, .slice none 0 0, .int .i64 0, .int .i64 0], worldH b2 c (stB c (bs0 c.n) (cs.take ξ.1))]) (fun ξ => cs.length - ξ.1) (0, (.slice none 0 0)) ⟨by first | omega | (dsimp only; omega), ⟨none, 0, 0, rfl⟩⟩ ((.cons rfl (.cons rfl (.cons rfl (.cons rfl (.cons rfl (.cons rfl .nil))))))) rfl ?_
    rintro ⟨i, cv⟩ ⟨hi, hicv⟩
    dsimp only at hi hicv
    refine Gx.know (m' := [(10, ptr b1 0), (12, ptr b2 0), (13, ptr b7 0), (76, sv), (77, .int .i64 ((cs.length : Nat) : Int)), (78, .int .i64 ((i : Nat) : Int))]) (.cons rfl (.cons rfl (.cons rfl (.cons rfl (.cons rfl (.cons rfl .nil)))))) (Gx.norm (l' := [Hp.own FZ 1 cv (codesB c (bs0 c.n) (cs.take i)), Hp.rec_ b7 [cv, .slice none 0 0, .slice none 0 0, .int .i64 0, .int .i64 0], Hp.rec_ b1 [.slice none 0 0, .slice none 0 0, .slice none 0 0, .int .i64 0, .int .i64 0], worldH b2 c (stB c (bs0 c.n) (cs.take i))]) rfl ?_)
    have bd : BdB 300 c (stB c (bs0 c.n) (cs.take i)) := (BdB.run hsn (cs := cs) i (by omega)).mono (by have h3 := hitB_le forgB cs (codesB c (bs0 c.n) cs) i; omega)
    have hci : (codesB c (bs0 c.n) (cs.take i)).length = i := by rw [codesB_len, List.length_take]; omega
    refine Gx.seq ?_
    refine Gx.region ?_
    refine Gx.val rfl rfl rfl (val_lss rfl rfl rfl) ?_
    refine Gx.done ?_
    refine Gx.thenN ?_
    refine Gx.seq ?_
    refine Gx.dec rfl (fun h8 => ?_) (fun h8 => ?_)
    · refine Gx.skip ?_
      refine Gx.thenN ?_
      refine Gx.seq ?_
      refine Gx.block ?_
      refine Gx.seq ?_
      refine Gx.region ?_
      obtain ⟨x9, hx9⟩ := get_of_lt (xs := cs) (k := i) (by first | omega | (simp; omega))
      refine Gx.val rfl rfl rfl (val_ixa rfl Try.underlying23 Try.ty34 rfl rfl (j := i) (rfl) (reach_base hs hx9)) ?_
      refine Gx.val rfl rfl rfl (Val.cast (val_loadA rfl Try.ty34 rfl rfl rfl (cells_base hs hx9)) (v' := .agg #[.int .i64 x9.kind, .int .i64 x9.frm, .int .i64 x9.to, .int .i64 x9.what, .int .i64 x9.msg, .int .i64 x9.n]) rfl) ?_
      refine Gx.eff rfl rfl rfl (eff_alloc rfl Try.ty34 (vs := [.int .i64 0, .int .i64 0, .int .i64 0, .int .i64 0, .int .i64 0, .int .i64 0]) rfl) ?_
      rintro _ _ ⟨b10, rfl, rfl⟩
      refine Gx.eff0 rfl rfl (eff_store rfl Try.ty34 rfl rfl (us := [.int .i64 x9.kind, .int .i64 x9.frm, .int .i64 x9.to, .int .i64 x9.what, .int .i64 x9.msg, .int .i64 x9.n]) rfl rfl rfl (k := 0) rfl (rfl) (vs' := [.int .i64 x9.kind, .int .i64 x9.frm, .int .i64 x9.to, .int .i64 x9.what, .int .i64 x9.msg, .int .i64 x9.n]) (rfl) (l' := [Hp.rec_ b10 [.int .i64 x9.kind, .int .i64 x9.frm, .int .i64 x9.to, .int .i64 x9.what, .int .i64 x9.msg, .int .i64 x9.n], Hp.own FZ 1 cv (codesB c (bs0 c.n) (cs.take i)), Hp.rec_ b7 [cv, .slice none 0 0, .slice none 0 0, .int .i64 0, .int .i64 0], Hp.rec_ b1 [.slice none 0 0, .slice none 0 0, .slice none 0 0, .int .i64 0, .int .i64 0], worldH b2 c (stB c (bs0 c.n) (cs.take i))]) rfl) ?_
      rintro _ _ rfl
      refine Gx.done ?_
      refine Gx.thenN ?_
      refine Gx.regionO (fun j => j == 4 || j == 5 || j == 6) 8 [0, 1, 2, 3, 4, 5, 6, 7] (fun us => match us with | [] => [Hp.rec_ b10 [.int .i64 x9.kind, .int .i64 x9.frm, .int .i64 x9.to, .int .i64 x9.what, .int .i64 x9.msg, .int .i64 x9.n], Hp.own FZ 1 cv (codesB c (bs0 c.n) (cs.take i)), Hp.rec_ b7 [cv, .slice none 0 0, .slice none 0 0, .int .i64 0, .int .i64 0], Hp.rec_ b1 [.slice none 0 0, .slice none 0 0, .slice none 0 0, .int .i64 0, .int .i64 0], worldH b2 c (stB c (bs0 c.n) (cs.take i))] | [u1] => [worldH b2 c ((stepB c (stB c (bs0 c.n) (cs.take i)) x9).2), Hp.rec_ b10 [.int .i64 x9.kind, .int .i64 x9.frm, .int .i64 x9.to, .int .i64 x9.what, .int .i64 x9.msg, .int .i64 x9.n], Hp.own FZ 1 cv (codesB c (bs0 c.n) (cs.take i)), Hp.rec_ b7 [cv, .slice none 0 0, .slice none 0 0, .int .i64 0, .int .i64 0], Hp.rec_ b1 [.slice none 0 0, .slice none 0 0, .slice none 0 0, .int .i64 0, .int .i64 0]] | [u1, u2] => [Hp.rec_ (sB u2) [.int .i64 ((stepB c (stB c (bs0 c.n) (cs.take i)) x9).1)], worldH b2 c ((stepB c (stB c (bs0 c.n) (cs.take i)) x9).2), Hp.rec_ b10 [.int .i64 x9.kind, .int .i64 x9.frm, .int .i64 x9.to, .int .i64 x9.what, .int .i64 x9.msg, .int .i64 x9.n], Hp.own FZ 1 cv (codesB c (bs0 c.n) (cs.take i)), Hp.rec_ b7 [cv, .slice none 0 0, .slice none 0 0, .int .i64 0, .int .i64 0], Hp.rec_ b1 [.slice none 0 0, .slice none 0 0, .slice none 0 0, .int .i64 0, .int .i64 0]] | u1 :: u2 :: u3 :: _ => [worldH b2 c ((stepB c (stB c (bs0 c.n) (cs.take i)) x9).2), Hp.rec_ b10 [.int .i64 x9.kind, .int .i64 x9.frm, .int .i64 x9.to, .int .i64 x9.what, .int .i64 x9.msg, .int .i64 x9.n], Hp.own FZ 1 u3 ((codesB c (bs0 c.n) (cs.take i)) ++ [(stepB c (stB c (bs0 c.n) (cs.take i)) x9).1]), Hp.rec_ b7 [cv, .slice none 0 0, .slice none 0 0, .int .i64 0, .int .i64 0], Hp.rec_ b1 [.slice none 0 0, .slice none 0 0, .slice none 0 0, .int .i64 0, .int .i64 0]]) Try.mixed (by kernel_rfl) rfl ?_
      refine Gw.val rfl rfl rfl rfl rfl (fun us => Val.cast (val_fieldAddr rfl Try.underlying28 rfl Try.ty24 rfl rfl) (v' := ptr b7 0) rfl) ?_
      refine Gw.val rfl rfl rfl rfl rfl (fun us => match us with | [] => val_load rfl Try.ty24 rfl rfl (cell_rec (k := 2) rfl rfl) | [u1] => val_load rfl Try.ty24 rfl rfl (cell_rec (k := 3) rfl rfl) | [u1, u2] => val_load rfl Try.ty24 rfl rfl (cell_rec (k := 4) rfl rfl) | u1 :: u2 :: u3 :: _ => val_load rfl Try.ty24 rfl rfl (cell_rec (k := 3) rfl rfl)) ?_
      refine Gw.val rfl rfl rfl rfl rfl (fun us => val_move rfl rfl) ?_
      refine Gw.val rfl rfl rfl rfl rfl (fun us => match us with | [] => Val.cast (val_loadA rfl Try.ty34 rfl rfl rfl (cells_rec (k := 0) rfl)) (v' := .agg #[.int .i64 x9.kind, .int .i64 x9.frm, .int .i64 x9.to, .int .i64 x9.what, .int .i64 x9.msg, .int .i64 x9.n]) rfl | [u1] => Val.cast (val_loadA rfl Try.ty34 rfl rfl rfl (cells_rec (k := 1) rfl)) (v' := .agg #[.int .i64 x9.kind, .int .i64 x9.frm, .int .i64 x9.to, .int .i64 x9.what, .int .i64 x9.msg, .int .i64 x9.n]) rfl | [u1, u2] => Val.cast (val_loadA rfl Try.ty34 rfl rfl rfl (cells_rec (k := 2) rfl)) (v' := .agg #[.int .i64 x9.kind, .int .i64 x9.frm, .int .i64 x9.to, .int .i64 x9.what, .int .i64 x9.msg, .int .i64 x9.n]) rfl | u1 :: u2 :: u3 :: _ => Val.cast (val_loadA rfl Try.ty34 rfl rfl rfl (cells_rec (k := 1) rfl)) (v' := .agg #[.int .i64 x9.kind, .int .i64 x9.frm, .int .i64 x9.to, .int .i64 x9.what, .int .i64 x9.msg, .int .i64 x9.n]) rfl) ?_
      refine Gw.chg rfl rfl rfl rfl rfl (fun v => v = .int .i64 ((stepB c (stB c (bs0 c.n) (cs.take i)) x9).1)) (eff_call (vs := [ptr b2 0, .agg #[.int .i64 x9.kind, .int .i64 x9.frm, .int .i64 x9.to, .int .i64 x9.what, .int .i64 x9.msg, .int .i64 x9.n]]) rfl Try.fn10 rfl (fun w H => step_any (x := x9) bd (by decide) h7n (by omega) hL hsn (H.at_ (k := 4) rfl))) ?_
      rintro _ rfl
      refine Gw.chg rfl rfl rfl rfl rfl (fun v => ∃ b12, v = .slice (some ⟨b12, 0, none⟩) 1 1) (Eff.mono (eff_buildSlice rfl (qs := [(0, .int .i64 ((stepB c (stB c (bs0 c.n) (cs.take i)) x9).1))]) rfl rfl (cs := #[.int .i64 ((stepB c (stB c (bs0 c.n) (cs.take i)) x9).1)]) (vs := [.int .i64 ((stepB c (stB c (bs0 c.n) (cs.take i)) x9).1)]) (E := 29) rfl (fun w => by first | (go_simp; done) | (go_simp; rfl))) (by rintro _ _ ⟨b12, rfl, rfl⟩; exact ⟨⟨b12, rfl⟩, rfl⟩)) ?_
      rintro _ ⟨b12, rfl⟩
      refine Gw.chg rfl rfl rfl rfl rfl IsS (Eff.mono (eff_push (r := (stepB c (stB c (bs0 c.n) (cs.take i)) x9).1) rfl Try.eZ FZ_len FZ_one rfl rfl (k := 0) rfl rfl (k' := 2) rfl (by rw [hci]; omega) (by rw [hci]; omega)) (fun _ _ h => ⟨h.1, congrArg sep h.2⟩)) ?_
      intro v13 hiv13
      refine Gw.val rfl rfl rfl rfl rfl (fun us => Val.cast (val_fieldAddr rfl Try.underlying28 rfl Try.ty24 rfl rfl) (v' := ptr b7 0) rfl) ?_
      refine Gw.done ?_
      refine Gx.norm (l' := [worldH b2 c ((stepB c (stB c (bs0 c.n) (cs.take i)) x9).2), Hp.rec_ b10 [.int .i64 x9.kind, .int .i64 x9.frm, .int .i64 x9.to, .int .i64 x9.what, .int .i64 x9.msg, .int .i64 x9.n], Hp.own FZ 1 v13 ((codesB c (bs0 c.n) (cs.take i)) ++ [(stepB c (stB c (bs0 c.n) (cs.take i)) x9).1]), Hp.rec_ b7 [cv, .slice none 0 0, .slice none 0 0, .int .i64 0, .int .i64 0], Hp.rec_ b1 [.slice none 0 0, .slice none 0 0, .slice none 0 0, .int .i64 0, .int .i64 0]]) rfl ?_
      refine Gx.eff0 rfl rfl (eff_store rfl Try.ty24 rfl rfl (us := [v13]) hiv13.cellsL rfl hiv13.all (k := 3) rfl (rfl) (vs' := [v13, .slice none 0 0, .slice none 0 0, .int .i64 0, .int .i64 0]) (rfl) (l' := [worldH b2 c ((stepB c (stB c (bs0 c.n) (cs.take i)) x9).2), Hp.rec_ b10 [.int .i64 x9.kind, .int .i64 x9.frm, .int .i64 x9.to, .int .i64 x9.what, .int .i64 x9.msg, .int .i64 x9.n], Hp.own FZ 1 v13 ((codesB c (bs0 c.n) (cs.take i)) ++ [(stepB c (stB c (bs0 c.n) (cs.take i)) x9).1]), Hp.rec_ b7 [v13, .slice none 0 0, .slice none 0 0, .int .i64 0, .int .i64 0], Hp.rec_ b1 [.slice none 0 0, .slice none 0 0, .slice none 0 0, .int .i64 0, .int .i64 0]]) rfl) ?_
      rintro _ _ rfl
      refine Gx.done ?_
      refine Gx.blkN ?_
      refine Gx.thenN ?_
      refine Gx.region ?_
      refine Gx.val rfl rfl rfl (val_add rfl rfl rfl (r := ((i + 1 : Nat) : Int)) (w64 (by omega) (by omega))) ?_
      refine Gx.val rfl rfl rfl (val_move rfl rfl) ?_
      refine Gx.done ?_
      refine Gx.thenN ?_
      refine Gx.drop 1 rfl ?_
      refine Gx.front 0 rfl ?_
      refine Gx.front 3 rfl ?_
      refine Gx.front 3 rfl ?_
      refine Gx.front 3 rfl ?_
      refine Gx.norm (l' := [Hp.own FZ 1 v13 (codesB c (bs0 c.n) (cs.take (i + 1))), Hp.rec_ b7 [v13, .slice none 0 0, .slice none 0 0, .int .i64 0, .int .i64 0], Hp.rec_ b1 [.slice none 0 0, .slice none 0 0, .slice none 0 0, .int .i64 0, .int .i64 0], worldH b2 c (stB c (bs0 c.n) (cs.take (i + 1)))]) (by rw [stB_snoc hx9, codesB_snoc hx9] <;> rfl) ?_
      exact Gx.round (i + 1, v13) ⟨by first | omega | (dsimp only; omega), hiv13⟩ (by first | omega | (dsimp only; omega)) ((.cons rfl (.cons rfl (.cons rfl (.cons rfl (.cons rfl (.cons rfl .nil))))))) rfl
    · refine Gx.exit ?_
      refine Gx.thenE ?_
      refine Gx.thenE ?_
      refine Gx.blkE ?_
      refine Gx.thenN ?_
      refine Gx.seq ?_
      refine Gx.seq ?_
      have ei : i = cs.length := by omega
      subst ei
      rw [List.take_length] at bd hci
      refine Gx.norm (l' := [Hp.own FZ 1 cv (codesB c (bs0 c.n) cs), Hp.rec_ b7 [cv, .slice none 0 0, .slice none 0 0, .int .i64 0, .int .i64 0], Hp.rec_ b1 [.slice none 0 0, .slice none 0 0, .slice none 0 0, .int .i64 0, .int .i64 0], worldH b2 c (stB c (bs0 c.n) cs)]) (by rw [List.take_length] <;> rfl) ?_
      obtain ⟨s, hsd⟩ : ∃ s, s = stB c (bs0 c.n) cs := ⟨_, rfl⟩
      rw [← hsd] at bd
      refine Gx.norm (l' := [Hp.own FZ 1 cv (codesB c (bs0 c.n) cs), Hp.rec_ b7 [cv, .slice none 0 0, .slice none 0 0, .int .i64 0, .int .i64 0], Hp.rec_ b1 [.slice none 0 0, .slice none 0 0, .slice none 0 0, .int .i64 0, .int .i64 0], worldH b2 c s]) (by rw [hsd] <;> rfl) ?_
      refine Gx.front 3 rfl ?_
      refine Gx.exists_ (α := {q : Value × Value × List Pm // q.2.2.map Pm.p = s.ps}) (l' := fun q => [Hp.rec_ b2 [.int .i64 ((c.n : Nat) : Int), .int .i64 ((c.f : Nat) : Int), .int .u32 ((c.L : Nat) : Int), .int .i64 ((c.snd : Nat) : Int), q.1.1, q.1.2.1, .bool s.st], Hp.own FG 5 q.1.1 s.all, Hp.own FR 5 q.1.2.1 q.1.2.2, Hp.big rowH q.1.2.2, Hp.own FZ 1 cv (codesB c (bs0 c.n) cs), Hp.rec_ b7 [cv, .slice none 0 0, .slice none 0 0, .int .i64 0, .int .i64 0], Hp.rec_ b1 [.slice none 0 0, .slice none 0 0, .slice none 0 0, .int .i64 0, .int .i64 0]]) (fun w H => ?_) ?_
      · obtain ⟨av, pv, pms, h1, H⟩ := worldH.open_ (R := sep [Hp.own FZ 1 cv (codesB c (bs0 c.n) cs), Hp.rec_ b7 [cv, .slice none 0 0, .slice none 0 0, .int .i64 0, .int .i64 0], Hp.rec_ b1 [.slice none 0 0, .slice none 0 0, .slice none 0 0, .int .i64 0, .int .i64 0]]) H
        exact ⟨⟨(av, pv, pms), h1⟩, H.cast (by rw [sep4R]; rfl)⟩
      rintro ⟨⟨av, pv, pms⟩, hmap⟩
      dsimp only at hmap
      refine Gx.norm (l' := [Hp.rec_ b2 [.int .i64 ((c.n : Nat) : Int), .int .i64 ((c.f : Nat) : Int), .int .u32 ((c.L : Nat) : Int), .int .i64 ((c.snd : Nat) : Int), av, pv, .bool s.st], Hp.own FG 5 av s.all, Hp.own FR 5 pv pms, Hp.big rowH pms, Hp.own FZ 1 cv (codesB c (bs0 c.n) cs), Hp.rec_ b7 [cv, .slice none 0 0, .slice none 0 0, .int .i64 0, .int .i64 0], Hp.rec_ b1 [.slice none 0 0, .slice none 0 0, .slice none 0 0, .int .i64 0, .int .i64 0]]) rfl ?_
      have hsl := bd.len
      have hal := bd.all_le
      have hnc := notC_le s.all
      have hpl : pms.length = c.n := by rw [← hsl, ← hmap, List.length_map]
      obtain ⟨sa14, sn15, sc16, rfl⟩ := hicv
      refine Gx.ownNil FB 1 ?_
      refine Gx.ownNil FI 1 ?_
      refine Gx.region ?_
      refine Gx.val rfl rfl rfl (val_move rfl rfl) ?_
      refine Gx.val rfl rfl rfl (val_nilCheck rfl rfl) ?_
      refine Gx.val rfl rfl rfl (Val.cast (val_fieldAddr rfl Try.underlying42 rfl Try.ty40 rfl rfl) (v' := ptr b2 5) rfl) ?_
      refine Gx.val rfl rfl rfl (val_load rfl Try.ty40 rfl rfl (cell_rec (k := 2) rfl rfl)) ?_
      refine Gx.val rfl rfl rfl (val_len rfl Try.underlying40 rfl (len_own (k := 4) rfl)) ?_
      refine Gx.val rfl rfl rfl (val_move rfl rfl) ?_
      refine Gx.done ?_
      refine Gx.thenN ?_
      refine Gx.block ?_
      refine Gx.front 8 rfl ?_
      refine Gx.front 7 rfl ?_
      refine Gx.front 7 rfl ?_
      refine Gx.front 7 rfl ?_
      refine Gx.front 7 rfl ?_
      refine Gx.front 7 rfl ?_
      refine Gx.front 8 rfl ?_
      refine Gx.front 7 rfl ?_
      refine Gx.front 8 rfl ?_
      refine Gx.loop (ι := Nat × Value × Value) (fun ξ => (ξ.1 ≤ c.n) ∧ (IsS ξ.2.1) ∧ (IsS ξ.2.2)) (fun ξ => [(10, ptr b1 0), (12, ptr b2 0), (13, ptr b7 0), (94, pv), (95, .int .i64 ((pms.length : Nat) : Int)), (96, .int .i64 ((ξ.1 : Nat) : Int))]) (fun ξ => [Hp.own FB 1 ξ.2.1 ((s.ps.take ξ.1).map Pr.has), Hp.own FI 1 ξ.2.2 ((s.ps.take ξ.1).map Pr.val), Hp.rec_ b7 [.slice sa14 sn15 sc16, ξ.2.1, ξ.2.2, .int .i64 0, .int .i64 0], Hp.rec_ b2 [.int .i64 ((c.n : Nat) : Int), .int .i64 ((c.f : Nat) : Int), .int .u32 ((c.L : Nat) : Int), .int .i64 ((c.snd : Nat) : Int), av, pv, .bool s.st], Hp.own FG 5 av s.all, Hp.own FR 5 pv pms, Hp.big rowH pms, Hp.own FZ 1 (.slice sa14 sn15 sc16) (codesB c (bs0 c.n) cs), Hp.rec_ b1 [.slice none 0 0, .slice none 0 0, .slice none 0 0, .int .i64 0, .int .i64 0]]) (fun ξ => c.n - ξ.1) (0, (.slice none 0 0), (.slice none 0 0)) ⟨by first | omega | (dsimp only; omega), ⟨none, 0, 0, rfl⟩, ⟨none, 0, 0, rfl⟩⟩ ((.cons rfl (.cons rfl (.cons rfl (.cons rfl (.cons rfl (.cons rfl .nil))))))) rfl ?_
      rintro ⟨j, wv, uv⟩ ⟨hj, hiw, hiu⟩
      dsimp only at hj hiw hiu
      refine Gx.know (m' := [(10, ptr b1 0), (12, ptr b2 0), (13, ptr b7 0), (94, pv), (95, .int .i64 ((pms.length : Nat) : Int)), (96, .int .i64 ((j : Nat) : Int))]) (.cons rfl (.cons rfl (.cons rfl (.cons rfl (.cons rfl (.cons rfl .nil)))))) (Gx.norm (l' := [Hp.own FB 1 wv ((s.ps.take j).map Pr.has), Hp.own FI 1 uv ((s.ps.take j).map Pr.val), Hp.rec_ b7 [.slice sa14 sn15 sc16, wv, uv, .int .i64 0, .int .i64 0], Hp.rec_ b2 [.int .i64 ((c.n : Nat) : Int), .int .i64 ((c.f : Nat) : Int), .int .u32 ((c.L : Nat) : Int), .int .i64 ((c.snd : Nat) : Int), av, pv, .bool s.st], Hp.own FG 5 av s.all, Hp.own FR 5 pv pms, Hp.big rowH pms, Hp.own FZ 1 (.slice sa14 sn15 sc16) (codesB c (bs0 c.n) cs), Hp.rec_ b1 [.slice none 0 0, .slice none 0 0, .slice none 0 0, .int .i64 0, .int .i64 0]]) rfl ?_)
      have hml : ((s.ps.take j).map Pr.has).length = j := by rw [List.length_map, List.length_take]; omega
      have hol : ((s.ps.take j).map Pr.val).length = j := by rw [List.length_map, List.length_take]; omega
      refine Gx.seq ?_
      refine Gx.region ?_
      refine Gx.val rfl rfl rfl (val_lss rfl rfl rfl) ?_
      refine Gx.done ?_
      refine Gx.thenN ?_
      refine Gx.seq ?_
      refine Gx.dec rfl (fun h17 => ?_) (fun h17 => ?_)
      · refine Gx.skip ?_
        refine Gx.thenN ?_
        refine Gx.seq ?_
        refine Gx.block ?_
        refine Gx.seq ?_
        obtain ⟨m, hmj⟩ := get_of_lt (xs := pms) (k := j) (by omega)
        have hrowj := row_of hmap hmj
        refine Gx.region ?_
        refine Gx.val rfl rfl rfl (val_ixa rfl Try.underlying40 Try.ty45 rfl rfl (j := j) (rfl) (reach_own (k := 5) rfl hmj)) ?_
        refine Gx.val rfl rfl rfl (Val.cast (val_loadA rfl Try.ty45 rfl rfl rfl (cells_own (k := 5) rfl hmj)) (v' := .agg #[.map (some m.mb), .bool m.p.ec, .bool m.p.rd, .bool m.p.has, .int .i64 m.p.val]) rfl) ?_
        refine Gx.eff rfl rfl rfl (eff_alloc rfl Try.ty45 (vs := [.map none, .bool false, .bool false, .bool false, .int .i64 0]) rfl) ?_
        rintro _ _ ⟨b18, rfl, rfl⟩
        refine Gx.eff0 rfl rfl (eff_store rfl Try.ty45 rfl rfl (us := [.map (some m.mb), .bool m.p.ec, .bool m.p.rd, .bool m.p.has, .int .i64 m.p.val]) rfl rfl rfl (k := 0) rfl (rfl) (vs' := [.map (some m.mb), .bool m.p.ec, .bool m.p.rd, .bool m.p.has, .int .i64 m.p.val]) (rfl) (l' := [Hp.rec_ b18 [.map (some m.mb), .bool m.p.ec, .bool m.p.rd, .bool m.p.has, .int .i64 m.p.val], Hp.own FB 1 wv ((s.ps.take j).map Pr.has), Hp.own FI 1 uv ((s.ps.take j).map Pr.val), Hp.rec_ b7 [.slice sa14 sn15 sc16, wv, uv, .int .i64 0, .int .i64 0], Hp.rec_ b2 [.int .i64 ((c.n : Nat) : Int), .int .i64 ((c.f : Nat) : Int), .int .u32 ((c.L : Nat) : Int), .int .i64 ((c.snd : Nat) : Int), av, pv, .bool s.st], Hp.own FG 5 av s.all, Hp.own FR 5 pv pms, Hp.big rowH pms, Hp.own FZ 1 (.slice sa14 sn15 sc16) (codesB c (bs0 c.n) cs), Hp.rec_ b1 [.slice none 0 0, .slice none 0 0, .slice none 0 0, .int .i64 0, .int .i64 0]]) rfl) ?_
        rintro _ _ rfl
        refine Gx.done ?_
        refine Gx.thenN ?_
        -- region 21, in whatever order
        refine Gx.ones 6 (Gx.norm (l' := [Hp.rec_ b18 [.map (some m.mb), .bool m.p.ec, .bool m.p.rd, .bool m.p.has, .int .i64 m.p.val], Hp.own FB 1 wv ((s.ps.take j).map Pr.has), Hp.own FI 1 uv ((s.ps.take j).map Pr.val), Hp.rec_ b7 [.slice sa14 sn15 sc16, wv, uv, .int .i64 0, .int .i64 0], Hp.rec_ b2 [.int .i64 ((c.n : Nat) : Int), .int .i64 ((c.f : Nat) : Int), .int .u32 ((c.L : Nat) : Int), .int .i64 ((c.snd : Nat) : Int), av, pv, .bool s.st], Hp.own FG 5 av s.all, Hp.own FR 5 pv pms, Hp.big rowH pms, Hp.own FZ 1 (.slice sa14 sn15 sc16) (codesB c (bs0 c.n) cs), Hp.rec_ b1 [.slice none 0 0, .slice none 0 0, .slice none 0 0, .int .i64 0, .int .i64 0], 1, 1, 1, 1, 1, 1]) rfl ?_)
        obtain ⟨pp19x1, pp19x1e⟩ : ∃ p : Done → Hp, p = fun d => cond (dn d 5) (Hp.own FB 1 (dv d 5) (((s.ps.take j).map Pr.has) ++ [m.p.has])) (Hp.own FB 1 wv ((s.ps.take j).map Pr.has)) := ⟨_, rfl⟩
        obtain ⟨pp19x2, pp19x2e⟩ : ∃ p : Done → Hp, p = fun d => cond (dn d 11) (Hp.own FI 1 (dv d 11) (((s.ps.take j).map Pr.val) ++ [m.p.val])) (Hp.own FI 1 uv ((s.ps.take j).map Pr.val)) := ⟨_, rfl⟩
        obtain ⟨pp19x3, pp19x3e⟩ : ∃ p : Done → Hp, p = fun d => cond (dn d 15) (Hp.rec_ b7 [.slice sa14 sn15 sc16, (dv d 5), (dv d 11), .int .i64 0, .int .i64 0]) (cond (dn d 13) (Hp.rec_ b7 [.slice sa14 sn15 sc16, (dv d 5), uv, .int .i64 0, .int .i64 0]) (Hp.rec_ b7 [.slice sa14 sn15 sc16, wv, uv, .int .i64 0, .int .i64 0])) := ⟨_, rfl⟩
        obtain ⟨pp19x10, pp19x10e⟩ : ∃ p : Done → Hp, p = fun d => cond (dn d 5) (1) (cond (dn d 4) (Hp.rec_ (sB (dv d 4)) [.bool m.p.has]) (1)) := ⟨_, rfl⟩
        obtain ⟨pp19x11, pp19x11e⟩ : ∃ p : Done → Hp, p = fun d => cond (dn d 11) (1) (cond (dn d 10) (Hp.rec_ (sB (dv d 10)) [.int .i64 m.p.val]) (1)) := ⟨_, rfl⟩
        obtain ⟨pp19x12, pp19x12e⟩ : ∃ p : Done → Hp, p = fun d => cond (dn d 4) (Hp.pure (dv d 4 = .slice (some ⟨sB (dv d 4), 0, none⟩) 1 1)) 1 := ⟨_, rfl⟩
        obtain ⟨pp19x13, pp19x13e⟩ : ∃ p : Done → Hp, p = fun d => cond (dn d 5) (Hp.pure (IsS (dv d 5))) 1 := ⟨_, rfl⟩
        obtain ⟨pp19x14, pp19x14e⟩ : ∃ p : Done → Hp, p = fun d => cond (dn d 10) (Hp.pure (dv d 10 = .slice (some ⟨sB (dv d 10), 0, none⟩) 1 1)) 1 := ⟨_, rfl⟩
        obtain ⟨pp19x15, pp19x15e⟩ : ∃ p : Done → Hp, p = fun d => cond (dn d 11) (Hp.pure (IsS (dv d 11))) 1 := ⟨_, rfl⟩
        refine Gx.regionF [4, 5, 10, 11, 13, 15] [0, 1, 2, 3, 6, 7, 8, 9, 12, 14] (fun ιi => cond (Nat.beq ιi 9) [Hp.rec_ b18 [.map (some m.mb), .bool m.p.ec, .bool m.p.rd, .bool m.p.has, .int .i64 m.p.val]] (cond (Nat.beq ιi 7) [Hp.rec_ b7 [.slice sa14 sn15 sc16, wv, uv, .int .i64 0, .int .i64 0]] (cond (Nat.beq ιi 3) [Hp.rec_ b18 [.map (some m.mb), .bool m.p.ec, .bool m.p.rd, .bool m.p.has, .int .i64 m.p.val]] (cond (Nat.beq ιi 1) [Hp.rec_ b7 [.slice sa14 sn15 sc16, wv, uv, .int .i64 0, .int .i64 0]] ([]))))) (fun d => [Hp.rec_ b18 [.map (some m.mb), .bool m.p.ec, .bool m.p.rd, .bool m.p.has, .int .i64 m.p.val], pp19x1 d, pp19x2 d, pp19x3 d, Hp.rec_ b2 [.int .i64 ((c.n : Nat) : Int), .int .i64 ((c.f : Nat) : Int), .int .u32 ((c.L : Nat) : Int), .int .i64 ((c.snd : Nat) : Int), av, pv, .bool s.st], Hp.own FG 5 av s.all, Hp.own FR 5 pv pms, Hp.big rowH pms, Hp.own FZ 1 (.slice sa14 sn15 sc16) (codesB c (bs0 c.n) cs), Hp.rec_ b1 [.slice none 0 0, .slice none 0 0, .slice none 0 0, .int .i64 0, .int .i64 0], pp19x10 d, pp19x11 d, pp19x12 d, pp19x13 d, pp19x14 d, pp19x15 d]) Try.mixed (by kernel_rfl) (by kernel_rfl) (by rw [pp19x1e]; rw [pp19x2e]; rw [pp19x3e]; rw [pp19x10e]; rw [pp19x11e]; rw [pp19x12e]; rw [pp19x13e]; rw [pp19x14e]; rw [pp19x15e]; rfl) ?_ ?_
        · intro ιi d w hc hs H
          by_cases hn1 : ιi = 1
          · subst hn1
            have q5 : dn d 5 = false := hs 5 rfl (by kernel_rfl)
            have q13 : dn d 13 = false := hs 13 rfl (by kernel_rfl)
            have q15 : dn d 15 = false := hs 15 rfl (by kernel_rfl)
            have q11 : dn d 11 = false := hc.not 11 5 rfl (by kernel_rfl) q5
            exact H.only (k := 3) rfl (by rw [pp19x3e]; simp only [q13, q15, cond_false])
          · by_cases hn3 : ιi = 3
            · subst hn3
              exact H.only (k := 0) rfl rfl
            · by_cases hn7 : ιi = 7
              · subst hn7
                have q11 : dn d 11 = false := hs 11 rfl (by kernel_rfl)
                have q13 : dn d 13 = false := hs 13 rfl (by kernel_rfl)
                have q15 : dn d 15 = false := hs 15 rfl (by kernel_rfl)
                exact H.only (k := 3) rfl (by rw [pp19x3e]; simp only [q13, q15, cond_false])
              · by_cases hn9 : ιi = 9
                · subst hn9
                  exact H.only (k := 0) rfl rfl
                · refine Sat.listed (l := []) H.noneL ?_
                  simp only [beq_no hn1, beq_no hn3, beq_no hn7, beq_no hn9, cond_false]
        refine Gp.val rfl rfl rfl rfl (Val.cast (val_fieldAddr rfl Try.underlying28 rfl Try.ty25 rfl rfl) (v' := ptr b7 1) rfl) ?_
        refine Gp.val rfl rfl rfl rfl (val_load rfl Try.ty25 rfl rfl (cell_rec (k := 0) rfl rfl)) ?_
        refine Gp.val rfl rfl rfl rfl (Val.cast (val_fieldAddr rfl Try.underlying45 rfl Try.ty4 rfl rfl) (v' := ptr b18 3) rfl) ?_
        refine Gp.val rfl rfl rfl rfl (val_load rfl Try.ty4 rfl rfl (cell_rec (k := 0) rfl rfl)) ?_
        refine Gp.val rfl rfl rfl rfl (Val.cast (val_fieldAddr rfl Try.underlying28 rfl Try.ty26 rfl rfl) (v' := ptr b7 2) rfl) ?_
        refine Gp.val rfl rfl rfl rfl (val_load rfl Try.ty26 rfl rfl (cell_rec (k := 0) rfl rfl)) ?_
        refine Gp.val rfl rfl rfl rfl (Val.cast (val_fieldAddr rfl Try.underlying45 rfl Try.ty2 rfl rfl) (v' := ptr b18 4) rfl) ?_
        refine Gp.val rfl rfl rfl rfl (val_load rfl Try.ty2 rfl rfl (cell_rec (k := 0) rfl rfl)) ?_
        refine Gp.val rfl rfl rfl rfl (Val.cast (val_fieldAddr rfl Try.underlying28 rfl Try.ty25 rfl rfl) (v' := ptr b7 1) rfl) ?_
        refine Gp.val rfl rfl rfl rfl (Val.cast (val_fieldAddr rfl Try.underlying28 rfl Try.ty26 rfl rfl) (v' := ptr b7 2) rfl) ?_
        refine Gp.done (uniq_of (by kernel_rfl)) (by rfl) (by kernel_rfl) ⟨⟨_, rfl, ?_⟩, ⟨_, rfl, ?_⟩, ⟨_, rfl, ?_⟩, ⟨_, rfl, ?_⟩, ⟨_, rfl, ?_⟩, ⟨_, rfl, ?_⟩, trivial⟩ ?_
        · intro d hc hdi hpre a w hf H
          change Sat _ _ (sep [Hp.rec_ b18 [.map (some m.mb), .bool m.p.ec, .bool m.p.rd, .bool m.p.has, .int .i64 m.p.val], pp19x1 d, pp19x2 d, pp19x3 d, Hp.rec_ b2 [.int .i64 ((c.n : Nat) : Int), .int .i64 ((c.f : Nat) : Int), .int .u32 ((c.L : Nat) : Int), .int .i64 ((c.snd : Nat) : Int), av, pv, .bool s.st], Hp.own FG 5 av s.all, Hp.own FR 5 pv pms, Hp.big rowH pms, Hp.own FZ 1 (.slice sa14 sn15 sc16) (codesB c (bs0 c.n) cs), Hp.rec_ b1 [.slice none 0 0, .slice none 0 0, .slice none 0 0, .int .i64 0, .int .i64 0], pp19x10 d, pp19x11 d, pp19x12 d, pp19x13 d, pp19x14 d, pp19x15 d]) at H
          have q4 := hdi
          have q5 : dn d 5 = false := hc.not 5 4 rfl (by kernel_rfl) q4
          have q13 : dn d 13 = false := hc.not 13 4 rfl (by kernel_rfl) q4
          have q15 : dn d 15 = false := hc.not 15 4 rfl (by kernel_rfl) q4
          have q11 : dn d 11 = false := hc.not 11 5 rfl (by kernel_rfl) q5
          have n1 : pp19x1 d = Hp.own FB 1 wv ((s.ps.take j).map Pr.has) := by rw [pp19x1e]; simp only [q5, cond_true, cond_false]
          have n2 : pp19x2 d = Hp.own FI 1 uv ((s.ps.take j).map Pr.val) := by rw [pp19x2e]; simp only [q11, cond_true, cond_false]
          have n3 : pp19x3 d = Hp.rec_ b7 [.slice sa14 sn15 sc16, wv, uv, .int .i64 0, .int .i64 0] := by rw [pp19x3e]; simp only [q13, q15, cond_true, cond_false]
          have n10 : pp19x10 d = 1 := by rw [pp19x10e]; simp only [q4, q5, cond_true, cond_false]
          have n12 : pp19x12 d = 1 := by rw [pp19x12e]; simp only [q4, cond_true, cond_false]
          rw [n1, n2, n3, n10, n12] at H
          refine EffAt.mono (Eff.at_ hf.slots H (eff_buildSlice rfl (qs := [(0, .bool m.p.has)]) rfl rfl (cs := #[.bool m.p.has]) (vs := [.bool m.p.has]) (E := 4) rfl (fun w => by first | (go_simp; done) | (go_simp; rfl)))) ?_
          rintro _ w2 ⟨_, ⟨b20, rfl, rfl⟩, H2⟩
          have H2 := Sat.fillAt H2 (k := 10) rfl
          have H2 := (Sat.pureI (p := (.slice (some ⟨b20, 0, none⟩) 1 1 : Value) = .slice (some ⟨b20, 0, none⟩) 1 1) rfl H2).fillAt (k := 12) rfl
          obtain ⟨d2, hd2⟩ : ∃ d2, d2 = upd d 4 (.slice (some ⟨b20, 0, none⟩) 1 1) := ⟨_, rfl⟩
          have m4 : dn d2 4 = true := by rw [hd2]; rfl
          have m5 : dn d2 5 = false := by rw [hd2]; exact q5
          have m13 : dn d2 13 = false := by rw [hd2]; exact q13
          have m15 : dn d2 15 = false := by rw [hd2]; exact q15
          have m11 : dn d2 11 = false := by rw [hd2]; exact q11
          rw [← hd2]
          change Sat _ _ (sep [Hp.rec_ b18 [.map (some m.mb), .bool m.p.ec, .bool m.p.rd, .bool m.p.has, .int .i64 m.p.val], pp19x1 d2, pp19x2 d2, pp19x3 d2, Hp.rec_ b2 [.int .i64 ((c.n : Nat) : Int), .int .i64 ((c.f : Nat) : Int), .int .u32 ((c.L : Nat) : Int), .int .i64 ((c.snd : Nat) : Int), av, pv, .bool s.st], Hp.own FG 5 av s.all, Hp.own FR 5 pv pms, Hp.big rowH pms, Hp.own FZ 1 (.slice sa14 sn15 sc16) (codesB c (bs0 c.n) cs), Hp.rec_ b1 [.slice none 0 0, .slice none 0 0, .slice none 0 0, .int .i64 0, .int .i64 0], pp19x10 d2, pp19x11 d2, pp19x12 d2, pp19x13 d2, pp19x14 d2, pp19x15 d2])
          have u1 := congrFun pp19x1e d2
          simp only [m5, cond_true, cond_false] at u1
          have u2 := congrFun pp19x2e d2
          simp only [m11, cond_true, cond_false] at u2
          have u3 := congrFun pp19x3e d2
          simp only [m13, m15, cond_true, cond_false] at u3
          have u10 := congrFun pp19x10e d2
          simp only [m4, m5, cond_true, cond_false] at u10
          have u11 : pp19x11 d2 = pp19x11 d := by rw [hd2, pp19x11e]; rfl
          have u12 := congrFun pp19x12e d2
          simp only [m4, cond_true, cond_false] at u12
          have u13 : pp19x13 d2 = pp19x13 d := by rw [hd2, pp19x13e]; rfl
          have u14 : pp19x14 d2 = pp19x14 d := by rw [hd2, pp19x14e]; rfl
          have u15 : pp19x15 d2 = pp19x15 d := by rw [hd2, pp19x15e]; rfl
          rw [u1, u2, u3, u10, u11, u12, u13, u14, u15]
          subst hd2
          exact H2
        · intro d hc hdi hpre a w hf H
          change Sat _ _ (sep [Hp.rec_ b18 [.map (some m.mb), .bool m.p.ec, .bool m.p.rd, .bool m.p.has, .int .i64 m.p.val], pp19x1 d, pp19x2 d, pp19x3 d, Hp.rec_ b2 [.int .i64 ((c.n : Nat) : Int), .int .i64 ((c.f : Nat) : Int), .int .u32 ((c.L : Nat) : Int), .int .i64 ((c.snd : Nat) : Int), av, pv, .bool s.st], Hp.own FG 5 av s.all, Hp.own FR 5 pv pms, Hp.big rowH pms, Hp.own FZ 1 (.slice sa14 sn15 sc16) (codesB c (bs0 c.n) cs), Hp.rec_ b1 [.slice none 0 0, .slice none 0 0, .slice none 0 0, .int .i64 0, .int .i64 0], pp19x10 d, pp19x11 d, pp19x12 d, pp19x13 d, pp19x14 d, pp19x15 d]) at H
          have q4 : dn d 4 = true := hpre 4 (by kernel_rfl)
          have q5 := hdi
          have q11 : dn d 11 = false := hc.not 11 5 rfl (by kernel_rfl) q5
          have q13 : dn d 13 = false := hc.not 13 5 rfl (by kernel_rfl) q5
          have q15 : dn d 15 = false := hc.not 15 5 rfl (by kernel_rfl) q5
          have e4 : dv d 4 = .slice (some ⟨sB (dv d 4), 0, none⟩) 1 1 := H.factAt (k := 12) rfl (by rw [pp19x12e]; simp only [q4, cond_true])
          have n1 : pp19x1 d = Hp.own FB 1 wv ((s.ps.take j).map Pr.has) := by rw [pp19x1e]; simp only [q5, cond_true, cond_false]
          have n2 : pp19x2 d = Hp.own FI 1 uv ((s.ps.take j).map Pr.val) := by rw [pp19x2e]; simp only [q11, cond_true, cond_false]
          have n3 : pp19x3 d = Hp.rec_ b7 [.slice sa14 sn15 sc16, wv, uv, .int .i64 0, .int .i64 0] := by rw [pp19x3e]; simp only [q13, q15, cond_true, cond_false]
          have n10 : pp19x10 d = Hp.rec_ (sB (dv d 4)) [.bool m.p.has] := by rw [pp19x10e]; simp only [q4, q5, cond_true, cond_false]
          have n13 : pp19x13 d = 1 := by rw [pp19x13e]; simp only [q5, cond_true, cond_false]
          rw [n1, n2, n3, n10, n13] at H
          have s4 := hf.add hf.slots 4 rfl (by kernel_rfl) rfl q4 (v := .slice (some ⟨sB (dv d 4), 0, none⟩) 1 1) e4
          refine EffAt.mono (Eff.at_ s4 H (eff_pushP (r := m.p.has) rfl Try.eB FB_len FB_one rfl rfl (k := 10) rfl rfl (k' := 1) rfl (by rw [hml]; omega) (by rw [hml]; omega))) ?_
          rintro v21 w2 ⟨_, ⟨hiv21, rfl⟩, H2⟩
          have H2 := (Sat.pureI hiv21 H2).fillAt (k := 13) rfl
          obtain ⟨d2, hd2⟩ : ∃ d2, d2 = upd d 5 (v21) := ⟨_, rfl⟩
          have m5 : dn d2 5 = true := by rw [hd2]; rfl
          have m4 : dn d2 4 = true := by rw [hd2]; exact q4
          have m11 : dn d2 11 = false := by rw [hd2]; exact q11
          have m13 : dn d2 13 = false := by rw [hd2]; exact q13
          have m15 : dn d2 15 = false := by rw [hd2]; exact q15
          rw [← hd2]
          change Sat _ _ (sep [Hp.rec_ b18 [.map (some m.mb), .bool m.p.ec, .bool m.p.rd, .bool m.p.has, .int .i64 m.p.val], pp19x1 d2, pp19x2 d2, pp19x3 d2, Hp.rec_ b2 [.int .i64 ((c.n : Nat) : Int), .int .i64 ((c.f : Nat) : Int), .int .u32 ((c.L : Nat) : Int), .int .i64 ((c.snd : Nat) : Int), av, pv, .bool s.st], Hp.own FG 5 av s.all, Hp.own FR 5 pv pms, Hp.big rowH pms, Hp.own FZ 1 (.slice sa14 sn15 sc16) (codesB c (bs0 c.n) cs), Hp.rec_ b1 [.slice none 0 0, .slice none 0 0, .slice none 0 0, .int .i64 0, .int .i64 0], pp19x10 d2, pp19x11 d2, pp19x12 d2, pp19x13 d2, pp19x14 d2, pp19x15 d2])
          have u1 := congrFun pp19x1e d2
          simp only [m5, cond_true, cond_false] at u1
          have u2 := congrFun pp19x2e d2
          simp only [m11, cond_true, cond_false] at u2
          have u3 := congrFun pp19x3e d2
          simp only [m13, m15, cond_true, cond_false] at u3
          have u10 := congrFun pp19x10e d2
          simp only [m4, m5, cond_true, cond_false] at u10
          have u11 : pp19x11 d2 = pp19x11 d := by rw [hd2, pp19x11e]; rfl
          have u12 : pp19x12 d2 = pp19x12 d := by rw [hd2, pp19x12e]; rfl
          have u13 := congrFun pp19x13e d2
          simp only [m5, cond_true, cond_false] at u13
          have u14 : pp19x14 d2 = pp19x14 d := by rw [hd2, pp19x14e]; rfl
          have u15 : pp19x15 d2 = pp19x15 d := by rw [hd2, pp19x15e]; rfl
          rw [u1, u2, u3, u10, u11, u12, u13, u14, u15]
          subst hd2
          exact H2
        · intro d hc hdi hpre a w hf H
          change Sat _ _ (sep [Hp.rec_ b18 [.map (some m.mb), .bool m.p.ec, .bool m.p.rd, .bool m.p.has, .int .i64 m.p.val], pp19x1 d, pp19x2 d, pp19x3 d, Hp.rec_ b2 [.int .i64 ((c.n : Nat) : Int), .int .i64 ((c.f : Nat) : Int), .int .u32 ((c.L : Nat) : Int), .int .i64 ((c.snd : Nat) : Int), av, pv, .bool s.st], Hp.own FG 5 av s.all, Hp.own FR 5 pv pms, Hp.big rowH pms, Hp.own FZ 1 (.slice sa14 sn15 sc16) (codesB c (bs0 c.n) cs), Hp.rec_ b1 [.slice none 0 0, .slice none 0 0, .slice none 0 0, .int .i64 0, .int .i64 0], pp19x10 d, pp19x11 d, pp19x12 d, pp19x13 d, pp19x14 d, pp19x15 d]) at H
          have q10 := hdi
          have q11 : dn d 11 = false := hc.not 11 10 rfl (by kernel_rfl) q10
          have q15 : dn d 15 = false := hc.not 15 10 rfl (by kernel_rfl) q10
          have q13 : dn d 13 = false := hc.not 13 11 rfl (by kernel_rfl) q11
          have n2 : pp19x2 d = Hp.own FI 1 uv ((s.ps.take j).map Pr.val) := by rw [pp19x2e]; simp only [q11, cond_true, cond_false]
          have n3 : pp19x3 d = Hp.rec_ b7 [.slice sa14 sn15 sc16, wv, uv, .int .i64 0, .int .i64 0] := by rw [pp19x3e]; simp only [q13, q15, cond_true, cond_false]
          have n11 : pp19x11 d = 1 := by rw [pp19x11e]; simp only [q10, q11, cond_true, cond_false]
          have n14 : pp19x14 d = 1 := by rw [pp19x14e]; simp only [q10, cond_true, cond_false]
          rw [n2, n3, n11, n14] at H
          refine EffAt.mono (Eff.at_ hf.slots H (eff_buildSlice rfl (qs := [(0, .int .i64 m.p.val)]) rfl rfl (cs := #[.int .i64 m.p.val]) (vs := [.int .i64 m.p.val]) (E := 2) rfl (fun w => by first | (go_simp; done) | (go_simp; rfl)))) ?_
          rintro _ w2 ⟨_, ⟨b22, rfl, rfl⟩, H2⟩
          have H2 := Sat.fillAt H2 (k := 11) rfl
          have H2 := (Sat.pureI (p := (.slice (some ⟨b22, 0, none⟩) 1 1 : Value) = .slice (some ⟨b22, 0, none⟩) 1 1) rfl H2).fillAt (k := 14) rfl
          obtain ⟨d2, hd2⟩ : ∃ d2, d2 = upd d 10 (.slice (some ⟨b22, 0, none⟩) 1 1) := ⟨_, rfl⟩
          have m10 : dn d2 10 = true := by rw [hd2]; rfl
          have m11 : dn d2 11 = false := by rw [hd2]; exact q11
          have m15 : dn d2 15 = false := by rw [hd2]; exact q15
          have m13 : dn d2 13 = false := by rw [hd2]; exact q13
          rw [← hd2]
          change Sat _ _ (sep [Hp.rec_ b18 [.map (some m.mb), .bool m.p.ec, .bool m.p.rd, .bool m.p.has, .int .i64 m.p.val], pp19x1 d2, pp19x2 d2, pp19x3 d2, Hp.rec_ b2 [.int .i64 ((c.n : Nat) : Int), .int .i64 ((c.f : Nat) : Int), .int .u32 ((c.L : Nat) : Int), .int .i64 ((c.snd : Nat) : Int), av, pv, .bool s.st], Hp.own FG 5 av s.all, Hp.own FR 5 pv pms, Hp.big rowH pms, Hp.own FZ 1 (.slice sa14 sn15 sc16) (codesB c (bs0 c.n) cs), Hp.rec_ b1 [.slice none 0 0, .slice none 0 0, .slice none 0 0, .int .i64 0, .int .i64 0], pp19x10 d2, pp19x11 d2, pp19x12 d2, pp19x13 d2, pp19x14 d2, pp19x15 d2])
          have u1 : pp19x1 d2 = pp19x1 d := by rw [hd2, pp19x1e]; rfl
          have u2 := congrFun pp19x2e d2
          simp only [m11, cond_true, cond_false] at u2
          have u3 := congrFun pp19x3e d2
          simp only [m13, m15, cond_true, cond_false] at u3
          have u10 : pp19x10 d2 = pp19x10 d := by rw [hd2, pp19x10e]; rfl
          have u11 := congrFun pp19x11e d2
          simp only [m10, m11, cond_true, cond_false] at u11
          have u12 : pp19x12 d2 = pp19x12 d := by rw [hd2, pp19x12e]; rfl
          have u13 : pp19x13 d2 = pp19x13 d := by rw [hd2, pp19x13e]; rfl
          have u14 := congrFun pp19x14e d2
          simp only [m10, cond_true, cond_false] at u14
          have u15 : pp19x15 d2 = pp19x15 d := by rw [hd2, pp19x15e]; rfl
          rw [u1, u2, u3, u10, u11, u12, u13, u14, u15]
          subst hd2
          exact H2
        · intro d hc hdi hpre a w hf H
          change Sat _ _ (sep [Hp.rec_ b18 [.map (some m.mb), .bool m.p.ec, .bool m.p.rd, .bool m.p.has, .int .i64 m.p.val], pp19x1 d, pp19x2 d, pp19x3 d, Hp.rec_ b2 [.int .i64 ((c.n : Nat) : Int), .int .i64 ((c.f : Nat) : Int), .int .u32 ((c.L : Nat) : Int), .int .i64 ((c.snd : Nat) : Int), av, pv, .bool s.st], Hp.own FG 5 av s.all, Hp.own FR 5 pv pms, Hp.big rowH pms, Hp.own FZ 1 (.slice sa14 sn15 sc16) (codesB c (bs0 c.n) cs), Hp.rec_ b1 [.slice none 0 0, .slice none 0 0, .slice none 0 0, .int .i64 0, .int .i64 0], pp19x10 d, pp19x11 d, pp19x12 d, pp19x13 d, pp19x14 d, pp19x15 d]) at H
          have q10 : dn d 10 = true := hpre 10 (by kernel_rfl)
          have q5 : dn d 5 = true := hpre 5 (by kernel_rfl)
          have q4 : dn d 4 = true := hc.pre 5 4 rfl (by kernel_rfl) q5
          have q11 := hdi
          have q13 : dn d 13 = false := hc.not 13 11 rfl (by kernel_rfl) q11
          have q15 : dn d 15 = false := hc.not 15 11 rfl (by kernel_rfl) q11
          have e10 : dv d 10 = .slice (some ⟨sB (dv d 10), 0, none⟩) 1 1 := H.factAt (k := 14) rfl (by rw [pp19x14e]; simp only [q10, cond_true])
          have e5 : IsS (dv d 5) := H.factAt (k := 13) rfl (by rw [pp19x13e]; simp only [q5, cond_true])
          have e4 : dv d 4 = .slice (some ⟨sB (dv d 4), 0, none⟩) 1 1 := H.factAt (k := 12) rfl (by rw [pp19x12e]; simp only [q4, cond_true])
          have n1 : pp19x1 d = Hp.own FB 1 (dv d 5) (((s.ps.take j).map Pr.has) ++ [m.p.has]) := by rw [pp19x1e]; simp only [q5, cond_true, cond_false]
          have n2 : pp19x2 d = Hp.own FI 1 uv ((s.ps.take j).map Pr.val) := by rw [pp19x2e]; simp only [q11, cond_true, cond_false]
          have n3 : pp19x3 d = Hp.rec_ b7 [.slice sa14 sn15 sc16, wv, uv, .int .i64 0, .int .i64 0] := by rw [pp19x3e]; simp only [q13, q15, cond_true, cond_false]
          have n10 : pp19x10 d = 1 := by rw [pp19x10e]; simp only [q4, q5, cond_true, cond_false]
          have n11 : pp19x11 d = Hp.rec_ (sB (dv d 10)) [.int .i64 m.p.val] := by rw [pp19x11e]; simp only [q10, q11, cond_true, cond_false]
          have n15 : pp19x15 d = 1 := by rw [pp19x15e]; simp only [q11, cond_true, cond_false]
          rw [n1, n2, n3, n10, n11, n15] at H
          have s10 := hf.add hf.slots 10 rfl (by kernel_rfl) rfl q10 (v := .slice (some ⟨sB (dv d 10), 0, none⟩) 1 1) e10
          refine EffAt.mono (Eff.at_ s10 H (eff_pushP (r := m.p.val) rfl Try.eI FI_len FI_one rfl rfl (k := 11) rfl rfl (k' := 2) rfl (by rw [hol]; omega) (by rw [hol]; omega))) ?_
          rintro v23 w2 ⟨_, ⟨hiv23, rfl⟩, H2⟩
          have H2 := (Sat.pureI hiv23 H2).fillAt (k := 15) rfl
          obtain ⟨d2, hd2⟩ : ∃ d2, d2 = upd d 11 (v23) := ⟨_, rfl⟩
          have m11 : dn d2 11 = true := by rw [hd2]; rfl
          have m10 : dn d2 10 = true := by rw [hd2]; exact q10
          have m5 : dn d2 5 = true := by rw [hd2]; exact q5
          have m4 : dn d2 4 = true := by rw [hd2]; exact q4
          have m13 : dn d2 13 = false := by rw [hd2]; exact q13
          have m15 : dn d2 15 = false := by rw [hd2]; exact q15
          rw [← hd2]
          change Sat _ _ (sep [Hp.rec_ b18 [.map (some m.mb), .bool m.p.ec, .bool m.p.rd, .bool m.p.has, .int .i64 m.p.val], pp19x1 d2, pp19x2 d2, pp19x3 d2, Hp.rec_ b2 [.int .i64 ((c.n : Nat) : Int), .int .i64 ((c.f : Nat) : Int), .int .u32 ((c.L : Nat) : Int), .int .i64 ((c.snd : Nat) : Int), av, pv, .bool s.st], Hp.own FG 5 av s.all, Hp.own FR 5 pv pms, Hp.big rowH pms, Hp.own FZ 1 (.slice sa14 sn15 sc16) (codesB c (bs0 c.n) cs), Hp.rec_ b1 [.slice none 0 0, .slice none 0 0, .slice none 0 0, .int .i64 0, .int .i64 0], pp19x10 d2, pp19x11 d2, pp19x12 d2, pp19x13 d2, pp19x14 d2, pp19x15 d2])
          have u1 := congrFun pp19x1e d2
          simp only [m5, cond_true, cond_false] at u1
          have u2 := congrFun pp19x2e d2
          simp only [m11, cond_true, cond_false] at u2
          have u3 := congrFun pp19x3e d2
          simp only [m13, m15, cond_true, cond_false] at u3
          have u10 := congrFun pp19x10e d2
          simp only [m4, m5, cond_true, cond_false] at u10
          have u11 := congrFun pp19x11e d2
          simp only [m10, m11, cond_true, cond_false] at u11
          have u12 : pp19x12 d2 = pp19x12 d := by rw [hd2, pp19x12e]; rfl
          have u13 : pp19x13 d2 = pp19x13 d := by rw [hd2, pp19x13e]; rfl
          have u14 : pp19x14 d2 = pp19x14 d := by rw [hd2, pp19x14e]; rfl
          have u15 := congrFun pp19x15e d2
          simp only [m11, cond_true, cond_false] at u15
          rw [u1, u2, u3, u10, u11, u12, u13, u14, u15]
          subst hd2
          exact H2
        · intro d hc hdi hpre a w hf H
          change Sat _ _ (sep [Hp.rec_ b18 [.map (some m.mb), .bool m.p.ec, .bool m.p.rd, .bool m.p.has, .int .i64 m.p.val], pp19x1 d, pp19x2 d, pp19x3 d, Hp.rec_ b2 [.int .i64 ((c.n : Nat) : Int), .int .i64 ((c.f : Nat) : Int), .int .u32 ((c.L : Nat) : Int), .int .i64 ((c.snd : Nat) : Int), av, pv, .bool s.st], Hp.own FG 5 av s.all, Hp.own FR 5 pv pms, Hp.big rowH pms, Hp.own FZ 1 (.slice sa14 sn15 sc16) (codesB c (bs0 c.n) cs), Hp.rec_ b1 [.slice none 0 0, .slice none 0 0, .slice none 0 0, .int .i64 0, .int .i64 0], pp19x10 d, pp19x11 d, pp19x12 d, pp19x13 d, pp19x14 d, pp19x15 d]) at H
          have q5 : dn d 5 = true := hpre 5 (by kernel_rfl)
          have q11 : dn d 11 = true := hpre 11 (by kernel_rfl)
          have q4 : dn d 4 = true := hpre 4 (by kernel_rfl)
          have q5 : dn d 5 = true := hpre 5 (by kernel_rfl)
          have q10 : dn d 10 = true := hc.pre 11 10 rfl (by kernel_rfl) q11
          have q13 := hdi
          have q15 : dn d 15 = false := hc.not 15 13 rfl (by kernel_rfl) q13
          have e5 : IsS (dv d 5) := H.factAt (k := 13) rfl (by rw [pp19x13e]; simp only [q5, cond_true])
          have e11 : IsS (dv d 11) := H.factAt (k := 15) rfl (by rw [pp19x15e]; simp only [q11, cond_true])
          have e4 : dv d 4 = .slice (some ⟨sB (dv d 4), 0, none⟩) 1 1 := H.factAt (k := 12) rfl (by rw [pp19x12e]; simp only [q4, cond_true])
          have e10 : dv d 10 = .slice (some ⟨sB (dv d 10), 0, none⟩) 1 1 := H.factAt (k := 14) rfl (by rw [pp19x14e]; simp only [q10, cond_true])
          have n1 : pp19x1 d = Hp.own FB 1 (dv d 5) (((s.ps.take j).map Pr.has) ++ [m.p.has]) := by rw [pp19x1e]; simp only [q5, cond_true, cond_false]
          have n2 : pp19x2 d = Hp.own FI 1 (dv d 11) (((s.ps.take j).map Pr.val) ++ [m.p.val]) := by rw [pp19x2e]; simp only [q11, cond_true, cond_false]
          have n3 : pp19x3 d = Hp.rec_ b7 [.slice sa14 sn15 sc16, wv, uv, .int .i64 0, .int .i64 0] := by rw [pp19x3e]; simp only [q13, q15, cond_true, cond_false]
          have n10 : pp19x10 d = 1 := by rw [pp19x10e]; simp only [q4, q5, cond_true, cond_false]
          have n11 : pp19x11 d = 1 := by rw [pp19x11e]; simp only [q10, q11, cond_true, cond_false]
          rw [n1, n2, n3, n10, n11] at H
          have s5 := hf.add hf.slots 5 rfl (by kernel_rfl) rfl q5 (v := (dv d 5)) rfl
          refine EffAt.mono (Eff.at_ s5 H (eff_store rfl Try.ty25 rfl rfl (us := [(dv d 5)]) e5.cellsL rfl e5.all (k := 3) rfl (rfl) (vs' := [.slice sa14 sn15 sc16, (dv d 5), uv, .int .i64 0, .int .i64 0]) (rfl) (l' := [Hp.rec_ b18 [.map (some m.mb), .bool m.p.ec, .bool m.p.rd, .bool m.p.has, .int .i64 m.p.val], Hp.own FB 1 (dv d 5) (((s.ps.take j).map Pr.has) ++ [m.p.has]), Hp.own FI 1 (dv d 11) (((s.ps.take j).map Pr.val) ++ [m.p.val]), Hp.rec_ b7 [.slice sa14 sn15 sc16, (dv d 5), uv, .int .i64 0, .int .i64 0], Hp.rec_ b2 [.int .i64 ((c.n : Nat) : Int), .int .i64 ((c.f : Nat) : Int), .int .u32 ((c.L : Nat) : Int), .int .i64 ((c.snd : Nat) : Int), av, pv, .bool s.st], Hp.own FG 5 av s.all, Hp.own FR 5 pv pms, Hp.big rowH pms, Hp.own FZ 1 (.slice sa14 sn15 sc16) (codesB c (bs0 c.n) cs), Hp.rec_ b1 [.slice none 0 0, .slice none 0 0, .slice none 0 0, .int .i64 0, .int .i64 0], 1, 1, pp19x12 d, pp19x13 d, pp19x14 d, pp19x15 d]) rfl)) ?_
          rintro v w2 ⟨_, rfl, H2⟩
          obtain ⟨d2, hd2⟩ : ∃ d2, d2 = upd d 13 v := ⟨_, rfl⟩
          have m13 : dn d2 13 = true := by rw [hd2]; rfl
          have m5 : dn d2 5 = true := by rw [hd2]; exact q5
          have m11 : dn d2 11 = true := by rw [hd2]; exact q11
          have m4 : dn d2 4 = true := by rw [hd2]; exact q4
          have m10 : dn d2 10 = true := by rw [hd2]; exact q10
          have m15 : dn d2 15 = false := by rw [hd2]; exact q15
          rw [← hd2]
          change Sat _ _ (sep [Hp.rec_ b18 [.map (some m.mb), .bool m.p.ec, .bool m.p.rd, .bool m.p.has, .int .i64 m.p.val], pp19x1 d2, pp19x2 d2, pp19x3 d2, Hp.rec_ b2 [.int .i64 ((c.n : Nat) : Int), .int .i64 ((c.f : Nat) : Int), .int .u32 ((c.L : Nat) : Int), .int .i64 ((c.snd : Nat) : Int), av, pv, .bool s.st], Hp.own FG 5 av s.all, Hp.own FR 5 pv pms, Hp.big rowH pms, Hp.own FZ 1 (.slice sa14 sn15 sc16) (codesB c (bs0 c.n) cs), Hp.rec_ b1 [.slice none 0 0, .slice none 0 0, .slice none 0 0, .int .i64 0, .int .i64 0], pp19x10 d2, pp19x11 d2, pp19x12 d2, pp19x13 d2, pp19x14 d2, pp19x15 d2])
          have u1 := congrFun pp19x1e d2
          simp only [m5, cond_true, cond_false] at u1
          have u2 := congrFun pp19x2e d2
          simp only [m11, cond_true, cond_false] at u2
          have u3 := congrFun pp19x3e d2
          simp only [m13, m15, cond_true, cond_false] at u3
          have u10 := congrFun pp19x10e d2
          simp only [m4, m5, cond_true, cond_false] at u10
          have u11 := congrFun pp19x11e d2
          simp only [m10, m11, cond_true, cond_false] at u11
          have u12 : pp19x12 d2 = pp19x12 d := by rw [hd2, pp19x12e]; rfl
          have u13 : pp19x13 d2 = pp19x13 d := by rw [hd2, pp19x13e]; rfl
          have u14 : pp19x14 d2 = pp19x14 d := by rw [hd2, pp19x14e]; rfl
          have u15 : pp19x15 d2 = pp19x15 d := by rw [hd2, pp19x15e]; rfl
          rw [u1, u2, u3, u10, u11, u12, u13, u14, u15]
          subst hd2
          exact H2
        · intro d hc hdi hpre a w hf H
          change Sat _ _ (sep [Hp.rec_ b18 [.map (some m.mb), .bool m.p.ec, .bool m.p.rd, .bool m.p.has, .int .i64 m.p.val], pp19x1 d, pp19x2 d, pp19x3 d, Hp.rec_ b2 [.int .i64 ((c.n : Nat) : Int), .int .i64 ((c.f : Nat) : Int), .int .u32 ((c.L : Nat) : Int), .int .i64 ((c.snd : Nat) : Int), av, pv, .bool s.st], Hp.own FG 5 av s.all, Hp.own FR 5 pv pms, Hp.big rowH pms, Hp.own FZ 1 (.slice sa14 sn15 sc16) (codesB c (bs0 c.n) cs), Hp.rec_ b1 [.slice none 0 0, .slice none 0 0, .slice none 0 0, .int .i64 0, .int .i64 0], pp19x10 d, pp19x11 d, pp19x12 d, pp19x13 d, pp19x14 d, pp19x15 d]) at H
          have q11 : dn d 11 = true := hpre 11 (by kernel_rfl)
          have q13 : dn d 13 = true := hpre 13 (by kernel_rfl)
          have q4 : dn d 4 = true := hpre 4 (by kernel_rfl)
          have q5 : dn d 5 = true := hpre 5 (by kernel_rfl)
          have q10 : dn d 10 = true := hpre 10 (by kernel_rfl)
          have q11 : dn d 11 = true := hpre 11 (by kernel_rfl)
          have q13 : dn d 13 = true := hpre 13 (by kernel_rfl)
          have q15 := hdi
          have e11 : IsS (dv d 11) := H.factAt (k := 15) rfl (by rw [pp19x15e]; simp only [q11, cond_true])
          have e4 : dv d 4 = .slice (some ⟨sB (dv d 4), 0, none⟩) 1 1 := H.factAt (k := 12) rfl (by rw [pp19x12e]; simp only [q4, cond_true])
          have e5 : IsS (dv d 5) := H.factAt (k := 13) rfl (by rw [pp19x13e]; simp only [q5, cond_true])
          have e10 : dv d 10 = .slice (some ⟨sB (dv d 10), 0, none⟩) 1 1 := H.factAt (k := 14) rfl (by rw [pp19x14e]; simp only [q10, cond_true])
          have n1 : pp19x1 d = Hp.own FB 1 (dv d 5) (((s.ps.take j).map Pr.has) ++ [m.p.has]) := by rw [pp19x1e]; simp only [q5, cond_true, cond_false]
          have n2 : pp19x2 d = Hp.own FI 1 (dv d 11) (((s.ps.take j).map Pr.val) ++ [m.p.val]) := by rw [pp19x2e]; simp only [q11, cond_true, cond_false]
          have n3 : pp19x3 d = Hp.rec_ b7 [.slice sa14 sn15 sc16, (dv d 5), uv, .int .i64 0, .int .i64 0] := by rw [pp19x3e]; simp only [q13, q15, cond_true, cond_false]
          have n10 : pp19x10 d = 1 := by rw [pp19x10e]; simp only [q4, q5, cond_true, cond_false]
          have n11 : pp19x11 d = 1 := by rw [pp19x11e]; simp only [q10, q11, cond_true, cond_false]
          rw [n1, n2, n3, n10, n11] at H
          have s11 := hf.add hf.slots 11 rfl (by kernel_rfl) rfl q11 (v := (dv d 11)) rfl
          refine EffAt.mono (Eff.at_ s11 H (eff_store rfl Try.ty26 rfl rfl (us := [(dv d 11)]) e11.cellsL rfl e11.all (k := 3) rfl (rfl) (vs' := [.slice sa14 sn15 sc16, (dv d 5), (dv d 11), .int .i64 0, .int .i64 0]) (rfl) (l' := [Hp.rec_ b18 [.map (some m.mb), .bool m.p.ec, .bool m.p.rd, .bool m.p.has, .int .i64 m.p.val], Hp.own FB 1 (dv d 5) (((s.ps.take j).map Pr.has) ++ [m.p.has]), Hp.own FI 1 (dv d 11) (((s.ps.take j).map Pr.val) ++ [m.p.val]), Hp.rec_ b7 [.slice sa14 sn15 sc16, (dv d 5), (dv d 11), .int .i64 0, .int .i64 0], Hp.rec_ b2 [.int .i64 ((c.n : Nat) : Int), .int .i64 ((c.f : Nat) : Int), .int .u32 ((c.L : Nat) : Int), .int .i64 ((c.snd : Nat) : Int), av, pv, .bool s.st], Hp.own FG 5 av s.all, Hp.own FR 5 pv pms, Hp.big rowH pms, Hp.own FZ 1 (.slice sa14 sn15 sc16) (codesB c (bs0 c.n) cs), Hp.rec_ b1 [.slice none 0 0, .slice none 0 0, .slice none 0 0, .int .i64 0, .int .i64 0], 1, 1, pp19x12 d, pp19x13 d, pp19x14 d, pp19x15 d]) rfl)) ?_
          rintro v w2 ⟨_, rfl, H2⟩
          obtain ⟨d2, hd2⟩ : ∃ d2, d2 = upd d 15 v := ⟨_, rfl⟩
          have m15 : dn d2 15 = true := by rw [hd2]; rfl
          have m11 : dn d2 11 = true := by rw [hd2]; exact q11
          have m13 : dn d2 13 = true := by rw [hd2]; exact q13
          have m4 : dn d2 4 = true := by rw [hd2]; exact q4
          have m5 : dn d2 5 = true := by rw [hd2]; exact q5
          have m10 : dn d2 10 = true := by rw [hd2]; exact q10
          rw [← hd2]
          change Sat _ _ (sep [Hp.rec_ b18 [.map (some m.mb), .bool m.p.ec, .bool m.p.rd, .bool m.p.has, .int .i64 m.p.val], pp19x1 d2, pp19x2 d2, pp19x3 d2, Hp.rec_ b2 [.int .i64 ((c.n : Nat) : Int), .int .i64 ((c.f : Nat) : Int), .int .u32 ((c.L : Nat) : Int), .int .i64 ((c.snd : Nat) : Int), av, pv, .bool s.st], Hp.own FG 5 av s.all, Hp.own FR 5 pv pms, Hp.big rowH pms, Hp.own FZ 1 (.slice sa14 sn15 sc16) (codesB c (bs0 c.n) cs), Hp.rec_ b1 [.slice none 0 0, .slice none 0 0, .slice none 0 0, .int .i64 0, .int .i64 0], pp19x10 d2, pp19x11 d2, pp19x12 d2, pp19x13 d2, pp19x14 d2, pp19x15 d2])
          have u1 := congrFun pp19x1e d2
          simp only [m5, cond_true, cond_false] at u1
          have u2 := congrFun pp19x2e d2
          simp only [m11, cond_true, cond_false] at u2
          have u3 := congrFun pp19x3e d2
          simp only [m13, m15, cond_true, cond_false] at u3
          have u10 := congrFun pp19x10e d2
          simp only [m4, m5, cond_true, cond_false] at u10
          have u11 := congrFun pp19x11e d2
          simp only [m10, m11, cond_true, cond_false] at u11
          have u12 : pp19x12 d2 = pp19x12 d := by rw [hd2, pp19x12e]; rfl
          have u13 : pp19x13 d2 = pp19x13 d := by rw [hd2, pp19x13e]; rfl
          have u14 : pp19x14 d2 = pp19x14 d := by rw [hd2, pp19x14e]; rfl
          have u15 : pp19x15 d2 = pp19x15 d := by rw [hd2, pp19x15e]; rfl
          rw [u1, u2, u3, u10, u11, u12, u13, u14, u15]
          subst hd2
          exact H2
        · intro d hc hall a hf w H
          change Sat _ _ (sep [Hp.rec_ b18 [.map (some m.mb), .bool m.p.ec, .bool m.p.rd, .bool m.p.has, .int .i64 m.p.val], pp19x1 d, pp19x2 d, pp19x3 d, Hp.rec_ b2 [.int .i64 ((c.n : Nat) : Int), .int .i64 ((c.f : Nat) : Int), .int .u32 ((c.L : Nat) : Int), .int .i64 ((c.snd : Nat) : Int), av, pv, .bool s.st], Hp.own FG 5 av s.all, Hp.own FR 5 pv pms, Hp.big rowH pms, Hp.own FZ 1 (.slice sa14 sn15 sc16) (codesB c (bs0 c.n) cs), Hp.rec_ b1 [.slice none 0 0, .slice none 0 0, .slice none 0 0, .int .i64 0, .int .i64 0], pp19x10 d, pp19x11 d, pp19x12 d, pp19x13 d, pp19x14 d, pp19x15 d]) at H
          have q4 : dn d 4 = true := hall 4 rfl
          have q5 : dn d 5 = true := hall 5 rfl
          have q10 : dn d 10 = true := hall 10 rfl
          have q11 : dn d 11 = true := hall 11 rfl
          have q13 : dn d 13 = true := hall 13 rfl
          have q15 : dn d 15 = true := hall 15 rfl
          have e4 : dv d 4 = .slice (some ⟨sB (dv d 4), 0, none⟩) 1 1 := H.factAt (k := 12) rfl (by rw [pp19x12e]; simp only [q4, cond_true])
          have e5 : IsS (dv d 5) := H.factAt (k := 13) rfl (by rw [pp19x13e]; simp only [q5, cond_true])
          have e10 : dv d 10 = .slice (some ⟨sB (dv d 10), 0, none⟩) 1 1 := H.factAt (k := 14) rfl (by rw [pp19x14e]; simp only [q10, cond_true])
          have e11 : IsS (dv d 11) := H.factAt (k := 15) rfl (by rw [pp19x15e]; simp only [q11, cond_true])
          have n1 : pp19x1 d = Hp.own FB 1 (dv d 5) (((s.ps.take j).map Pr.has) ++ [m.p.has]) := by rw [pp19x1e]; simp only [q5, cond_true, cond_false]
          have n2 : pp19x2 d = Hp.own FI 1 (dv d 11) (((s.ps.take j).map Pr.val) ++ [m.p.val]) := by rw [pp19x2e]; simp only [q11, cond_true, cond_false]
          have n3 : pp19x3 d = Hp.rec_ b7 [.slice sa14 sn15 sc16, (dv d 5), (dv d 11), .int .i64 0, .int .i64 0] := by rw [pp19x3e]; simp only [q13, q15, cond_true, cond_false]
          have n10 : pp19x10 d = 1 := by rw [pp19x10e]; simp only [q4, q5, cond_true, cond_false]
          have n11 : pp19x11 d = 1 := by rw [pp19x11e]; simp only [q10, q11, cond_true, cond_false]
          have n12 : pp19x12 d = Hp.pure (dv d 4 = .slice (some ⟨sB (dv d 4), 0, none⟩) 1 1) := by rw [pp19x12e]; simp only [q4, cond_true]
          have n13 : pp19x13 d = Hp.pure (IsS (dv d 5)) := by rw [pp19x13e]; simp only [q5, cond_true]
          have n14 : pp19x14 d = Hp.pure (dv d 10 = .slice (some ⟨sB (dv d 10), 0, none⟩) 1 1) := by rw [pp19x14e]; simp only [q10, cond_true]
          have n15 : pp19x15 d = Hp.pure (IsS (dv d 11)) := by rw [pp19x15e]; simp only [q11, cond_true]
          rw [n1, n2, n3, n10, n11, n12, n13, n14, n15] at H
          clear n1 n2 n3 n10 n11 n12 n13 n14 n15
          obtain ⟨z24, hz24⟩ : ∃ b, b = sB (dv d 4) := ⟨_, rfl⟩
          rw [← hz24] at e4  H
          have s4 := hf.add hf.slots 4 rfl rfl rfl q4 (v := .slice (some ⟨z24, 0, none⟩) 1 1) e4
          obtain ⟨z25, hz25⟩ : ∃ b, b = dv d 5 := ⟨_, rfl⟩
          rw [← hz25] at e5  H
          have s5 := hf.add s4 5 rfl rfl rfl q5 (v := z25) hz25.symm
          obtain ⟨z26, hz26⟩ : ∃ b, b = sB (dv d 10) := ⟨_, rfl⟩
          rw [← hz26] at e10  H
          have s10 := hf.add s5 10 rfl rfl rfl q10 (v := .slice (some ⟨z26, 0, none⟩) 1 1) e10
          obtain ⟨z27, hz27⟩ : ∃ b, b = dv d 11 := ⟨_, rfl⟩
          rw [← hz27] at e11  H
          have s11 := hf.add s10 11 rfl rfl rfl q11 (v := z27) hz27.symm
          refine Gx.use s11 H ?_
          refine Gx.drop 15 rfl ?_
          refine Gx.drop 14 rfl ?_
          refine Gx.drop 13 rfl ?_
          refine Gx.drop 12 rfl ?_
          refine Gx.drop 11 rfl ?_
          refine Gx.drop 10 rfl ?_
          refine Gx.norm (l' := [Hp.rec_ b18 [.map (some m.mb), .bool m.p.ec, .bool m.p.rd, .bool m.p.has, .int .i64 m.p.val], Hp.own FB 1 z25 (((s.ps.take j).map Pr.has) ++ [m.p.has]), Hp.own FI 1 z27 (((s.ps.take j).map Pr.val) ++ [m.p.val]), Hp.rec_ b7 [.slice sa14 sn15 sc16, z25, z27, .int .i64 0, .int .i64 0], Hp.rec_ b2 [.int .i64 ((c.n : Nat) : Int), .int .i64 ((c.f : Nat) : Int), .int .u32 ((c.L : Nat) : Int), .int .i64 ((c.snd : Nat) : Int), av, pv, .bool s.st], Hp.own FG 5 av s.all, Hp.own FR 5 pv pms, Hp.big rowH pms, Hp.own FZ 1 (.slice sa14 sn15 sc16) (codesB c (bs0 c.n) cs), Hp.rec_ b1 [.slice none 0 0, .slice none 0 0, .slice none 0 0, .int .i64 0, .int .i64 0]]) rfl ?_
          refine Gx.blkN ?_
          refine Gx.thenN ?_
          refine Gx.region ?_
          refine Gx.val rfl rfl rfl (val_add rfl rfl rfl (r := ((j + 1 : Nat) : Int)) (w64 (by omega) (by omega))) ?_
          refine Gx.val rfl rfl rfl (val_move rfl rfl) ?_
          refine Gx.done ?_
          refine Gx.thenN ?_
          refine Gx.drop 0 rfl ?_
          refine Gx.norm (l' := [Hp.own FB 1 z25 ((s.ps.take (j + 1)).map Pr.has), Hp.own FI 1 z27 ((s.ps.take (j + 1)).map Pr.val), Hp.rec_ b7 [.slice sa14 sn15 sc16, z25, z27, .int .i64 0, .int .i64 0], Hp.rec_ b2 [.int .i64 ((c.n : Nat) : Int), .int .i64 ((c.f : Nat) : Int), .int .u32 ((c.L : Nat) : Int), .int .i64 ((c.snd : Nat) : Int), av, pv, .bool s.st], Hp.own FG 5 av s.all, Hp.own FR 5 pv pms, Hp.big rowH pms, Hp.own FZ 1 (.slice sa14 sn15 sc16) (codesB c (bs0 c.n) cs), Hp.rec_ b1 [.slice none 0 0, .slice none 0 0, .slice none 0 0, .int .i64 0, .int .i64 0]]) (by rw [take_of hrowj, List.map_append, List.map_append] <;> rfl) ?_
          exact Gx.round (j + 1, z25, z27) ⟨by first | omega | (dsimp only; omega), e5, e11⟩ (by first | omega | (dsimp only; omega)) ((.cons rfl (.cons rfl (.cons rfl (.cons rfl (.cons rfl (.cons rfl .nil))))))) rfl
      · refine Gx.exit ?_
        refine Gx.thenE ?_
        refine Gx.thenE ?_
        refine Gx.blkE ?_
        refine Gx.thenN ?_
        refine Gx.seq ?_
        have ej : j = s.ps.length := by omega
        subst ej
        rw [List.take_length] at hml hol
        refine Gx.norm (l' := [Hp.own FB 1 wv (s.ps.map Pr.has), Hp.own FI 1 uv (s.ps.map Pr.val), Hp.rec_ b7 [.slice sa14 sn15 sc16, wv, uv, .int .i64 0, .int .i64 0], Hp.rec_ b2 [.int .i64 ((c.n : Nat) : Int), .int .i64 ((c.f : Nat) : Int), .int .u32 ((c.L : Nat) : Int), .int .i64 ((c.snd : Nat) : Int), av, pv, .bool s.st], Hp.own FG 5 av s.all, Hp.own FR 5 pv pms, Hp.big rowH pms, Hp.own FZ 1 (.slice sa14 sn15 sc16) (codesB c (bs0 c.n) cs), Hp.rec_ b1 [.slice none 0 0, .slice none 0 0, .slice none 0 0, .int .i64 0, .int .i64 0]]) (by rw [List.take_length] <;> rfl) ?_
        obtain ⟨sa28, sn29, sc30, rfl⟩ := hiw
        obtain ⟨sa31, sn32, sc33, rfl⟩ := hiu
        refine Gx.region ?_
        refine Gx.val rfl rfl rfl (val_move rfl rfl) ?_
        refine Gx.val rfl rfl rfl (val_nilCheck rfl rfl) ?_
        refine Gx.val rfl rfl rfl (Val.cast (val_fieldAddr rfl Try.underlying42 rfl Try.ty39 rfl rfl) (v' := ptr b2 4) rfl) ?_
        refine Gx.val rfl rfl rfl (val_load rfl Try.ty39 rfl rfl (cell_rec (k := 3) rfl rfl)) ?_
        refine Gx.val rfl rfl rfl (val_len rfl Try.underlying39 rfl (len_own (k := 4) rfl)) ?_
        refine Gx.val rfl rfl rfl (Val.cast (val_fieldAddr rfl Try.underlying28 rfl Try.ty3 rfl rfl) (v' := ptr b7 3) rfl) ?_
        refine Gx.eff0 rfl rfl (eff_store rfl Try.ty3 rfl rfl (us := [.int .i64 ((s.all.length : Nat) : Int)]) rfl rfl rfl (k := 2) rfl (rfl) (vs' := [.slice sa14 sn15 sc16, .slice sa28 sn29 sc30, .slice sa31 sn32 sc33, .int .i64 ((s.all.length : Nat) : Int), .int .i64 0]) (rfl) (l' := [Hp.own FB 1 (.slice sa28 sn29 sc30) (s.ps.map Pr.has), Hp.own FI 1 (.slice sa31 sn32 sc33) (s.ps.map Pr.val), Hp.rec_ b7 [.slice sa14 sn15 sc16, .slice sa28 sn29 sc30, .slice sa31 sn32 sc33, .int .i64 ((s.all.length : Nat) : Int), .int .i64 0], Hp.rec_ b2 [.int .i64 ((c.n : Nat) : Int), .int .i64 ((c.f : Nat) : Int), .int .u32 ((c.L : Nat) : Int), .int .i64 ((c.snd : Nat) : Int), av, pv, .bool s.st], Hp.own FG 5 av s.all, Hp.own FR 5 pv pms, Hp.big rowH pms, Hp.own FZ 1 (.slice sa14 sn15 sc16) (codesB c (bs0 c.n) cs), Hp.rec_ b1 [.slice none 0 0, .slice none 0 0, .slice none 0 0, .int .i64 0, .int .i64 0]]) rfl) ?_
        rintro _ _ rfl
        refine Gx.done ?_
        refine Gx.thenN ?_
        refine Gx.seq ?_
        refine Gx.region ?_
        refine Gx.val rfl rfl rfl (val_assign rfl rfl) ?_
        refine Gx.done ?_
        refine Gx.thenN ?_
        refine Gx.seq ?_
        have hfl := firstC_le s.all
        rcases Nat.lt_or_eq_of_le hfl with hfc | hfc
        · refine Gx.region ?_
          refine Gx.val rfl rfl rfl (val_move rfl rfl) ?_
          refine Gx.val rfl rfl rfl (val_nilCheck rfl rfl) ?_
          refine Gx.val rfl rfl rfl (Val.cast (val_fieldAddr rfl Try.underlying42 rfl Try.ty39 rfl rfl) (v' := ptr b2 4) rfl) ?_
          refine Gx.val rfl rfl rfl (val_load rfl Try.ty39 rfl rfl (cell_rec (k := 3) rfl rfl)) ?_
          refine Gx.eff rfl rfl rfl (eff_call (vs := [av]) rfl Try.fn13 rfl (fun w H => clone_any (by omega) (H.at_ (k := 4) rfl))) ?_
          rintro _ l35 ⟨cw34, hicw34, rfl, hl35⟩
          refine Gx.sepEq (l' := [Hp.own FG 5 cw34 s.all, Hp.own FG 5 av s.all, Hp.own FB 1 (.slice sa28 sn29 sc30) (s.ps.map Pr.has), Hp.own FI 1 (.slice sa31 sn32 sc33) (s.ps.map Pr.val), Hp.rec_ b7 [.slice sa14 sn15 sc16, .slice sa28 sn29 sc30, .slice sa31 sn32 sc33, .int .i64 ((s.all.length : Nat) : Int), .int .i64 0], Hp.rec_ b2 [.int .i64 ((c.n : Nat) : Int), .int .i64 ((c.f : Nat) : Int), .int .u32 ((c.L : Nat) : Int), .int .i64 ((c.snd : Nat) : Int), av, pv, .bool s.st], Hp.own FR 5 pv pms, Hp.big rowH pms, Hp.own FZ 1 (.slice sa14 sn15 sc16) (codesB c (bs0 c.n) cs), Hp.rec_ b1 [.slice none 0 0, .slice none 0 0, .slice none 0 0, .int .i64 0, .int .i64 0]]) hl35 ?_
          refine Gx.val rfl rfl rfl (val_move rfl rfl) ?_
          refine Gx.eff rfl rfl rfl (eff_call (vs := [cw34, .func (.func 11) #[] #[]]) rfl Try.fn12 rfl (fun w H => delete_some hicw34 (by omega) hfc (H.at_ (k := 0) rfl))) ?_
          rintro _ l36 ⟨ys9, rfl, hl36⟩
          refine Gx.sepEq (l' := [Hp.own FG 5 cw34 ys9, Hp.own FG 5 av s.all, Hp.own FB 1 (.slice sa28 sn29 sc30) (s.ps.map Pr.has), Hp.own FI 1 (.slice sa31 sn32 sc33) (s.ps.map Pr.val), Hp.rec_ b7 [.slice sa14 sn15 sc16, .slice sa28 sn29 sc30, .slice sa31 sn32 sc33, .int .i64 ((s.all.length : Nat) : Int), .int .i64 0], Hp.rec_ b2 [.int .i64 ((c.n : Nat) : Int), .int .i64 ((c.f : Nat) : Int), .int .u32 ((c.L : Nat) : Int), .int .i64 ((c.snd : Nat) : Int), av, pv, .bool s.st], Hp.own FR 5 pv pms, Hp.big rowH pms, Hp.own FZ 1 (.slice sa14 sn15 sc16) (codesB c (bs0 c.n) cs), Hp.rec_ b1 [.slice none 0 0, .slice none 0 0, .slice none 0 0, .int .i64 0, .int .i64 0]]) hl36 ?_
          refine Gx.val rfl rfl rfl (val_len rfl Try.underlying39 rfl (len_cutO (f := FG) (sz := 5) (v := cw34) (lo := 0) (up := notC s.all) (k := 0) rfl)) ?_
          refine Gx.val rfl rfl rfl (Val.cast (val_fieldAddr rfl Try.underlying28 rfl Try.ty3 rfl rfl) (v' := ptr b7 4) rfl) ?_
          refine Gx.eff0 rfl rfl (eff_store rfl Try.ty3 rfl rfl (us := [.int .i64 ((notC s.all - 0 : Nat) : Int)]) rfl rfl rfl (k := 4) rfl (rfl) (vs' := [.slice sa14 sn15 sc16, .slice sa28 sn29 sc30, .slice sa31 sn32 sc33, .int .i64 ((s.all.length : Nat) : Int), .int .i64 ((notC s.all - 0 : Nat) : Int)]) (rfl) (l' := [Hp.own FG 5 cw34 ys9, Hp.own FG 5 av s.all, Hp.own FB 1 (.slice sa28 sn29 sc30) (s.ps.map Pr.has), Hp.own FI 1 (.slice sa31 sn32 sc33) (s.ps.map Pr.val), Hp.rec_ b7 [.slice sa14 sn15 sc16, .slice sa28 sn29 sc30, .slice sa31 sn32 sc33, .int .i64 ((s.all.length : Nat) : Int), .int .i64 ((notC s.all - 0 : Nat) : Int)], Hp.rec_ b2 [.int .i64 ((c.n : Nat) : Int), .int .i64 ((c.f : Nat) : Int), .int .u32 ((c.L : Nat) : Int), .int .i64 ((c.snd : Nat) : Int), av, pv, .bool s.st], Hp.own FR 5 pv pms, Hp.big rowH pms, Hp.own FZ 1 (.slice sa14 sn15 sc16) (codesB c (bs0 c.n) cs), Hp.rec_ b1 [.slice none 0 0, .slice none 0 0, .slice none 0 0, .int .i64 0, .int .i64 0]]) rfl) ?_
          rintro _ _ rfl
          refine Gx.done ?_
          refine Gx.thenN ?_
          refine Gx.seq ?_
          refine Gx.norm (l' := [Hp.own FG 5 cw34 ys9, Hp.own FG 5 av s.all, Hp.own FB 1 (.slice sa28 sn29 sc30) (s.ps.map Pr.has), Hp.own FI 1 (.slice sa31 sn32 sc33) (s.ps.map Pr.val), Hp.rec_ b7 [.slice sa14 sn15 sc16, .slice sa28 sn29 sc30, .slice sa31 sn32 sc33, .int .i64 ((s.all.length : Nat) : Int), .int .i64 ((notC s.all : Nat) : Int)], Hp.rec_ b2 [.int .i64 ((c.n : Nat) : Int), .int .i64 ((c.f : Nat) : Int), .int .u32 ((c.L : Nat) : Int), .int .i64 ((c.snd : Nat) : Int), av, pv, .bool s.st], Hp.own FR 5 pv pms, Hp.big rowH pms, Hp.own FZ 1 (.slice sa14 sn15 sc16) (codesB c (bs0 c.n) cs), Hp.rec_ b1 [.slice none 0 0, .slice none 0 0, .slice none 0 0, .int .i64 0, .int .i64 0]]) (by first | rfl | (rw [hnn] <;> rfl)) ?_
          refine Gx.region ?_
          refine Gx.val rfl rfl rfl (Val.cast (val_loadA rfl Try.ty28 rfl rfl rfl (cells_rec (k := 4) rfl)) (v' := .agg #[.slice sa14 sn15 sc16, .slice sa28 sn29 sc30, .slice sa31 sn32 sc33, .int .i64 ((s.all.length : Nat) : Int), .int .i64 ((notC s.all : Nat) : Int)]) rfl) ?_
          refine Gx.eff0 rfl rfl (eff_store rfl Try.ty28 rfl rfl (us := [.slice sa14 sn15 sc16, .slice sa28 sn29 sc30, .slice sa31 sn32 sc33, .int .i64 ((s.all.length : Nat) : Int), .int .i64 ((notC s.all : Nat) : Int)]) rfl rfl rfl (k := 9) rfl (rfl) (vs' := [.slice sa14 sn15 sc16, .slice sa28 sn29 sc30, .slice sa31 sn32 sc33, .int .i64 ((s.all.length : Nat) : Int), .int .i64 ((notC s.all : Nat) : Int)]) (rfl) (l' := [Hp.own FG 5 cw34 ys9, Hp.own FG 5 av s.all, Hp.own FB 1 (.slice sa28 sn29 sc30) (s.ps.map Pr.has), Hp.own FI 1 (.slice sa31 sn32 sc33) (s.ps.map Pr.val), Hp.rec_ b7 [.slice sa14 sn15 sc16, .slice sa28 sn29 sc30, .slice sa31 sn32 sc33, .int .i64 ((s.all.length : Nat) : Int), .int .i64 ((notC s.all : Nat) : Int)], Hp.rec_ b2 [.int .i64 ((c.n : Nat) : Int), .int .i64 ((c.f : Nat) : Int), .int .u32 ((c.L : Nat) : Int), .int .i64 ((c.snd : Nat) : Int), av, pv, .bool s.st], Hp.own FR 5 pv pms, Hp.big rowH pms, Hp.own FZ 1 (.slice sa14 sn15 sc16) (codesB c (bs0 c.n) cs), Hp.rec_ b1 [.slice sa14 sn15 sc16, .slice sa28 sn29 sc30, .slice sa31 sn32 sc33, .int .i64 ((s.all.length : Nat) : Int), .int .i64 ((notC s.all : Nat) : Int)]]) rfl) ?_
          rintro _ _ rfl
          refine Gx.val rfl rfl rfl (val_assign rfl rfl) ?_
          refine Gx.done ?_
          refine Gx.thenN ?_
          refine Gx.ret ?_
          refine Gx.drop 7 rfl ?_
          refine Gx.drop 6 rfl ?_
          refine Gx.drop 5 rfl ?_
          refine Gx.drop 4 rfl ?_
          refine Gx.drop 1 rfl ?_
          refine Gx.drop 0 rfl ?_
          refine Gx.front 3 rfl ?_
          refine Gx.front 2 rfl ?_
          refine Gx.front 2 rfl ?_
          refine Gx.front 3 rfl ?_
          refine Gx.retC2 Try.results7 Try.ty28 rfl rfl (us := [.slice sa14 sn15 sc16, .slice sa28 sn29 sc30, .slice sa31 sn32 sc33, .int .i64 ((s.all.length : Nat) : Int), .int .i64 ((notC s.all : Nat) : Int)]) rfl (k := 3) rfl rfl ?_
          subst hsd
          exact ⟨_, _, _, _, rfl, rfl⟩
        · have hnn : notC s.all = s.all.length := by
            have h9 := notC_none (l := s.all) s.all.length (by omega)
            rwa [List.take_length] at h9
          refine Gx.region ?_
          refine Gx.val rfl rfl rfl (val_move rfl rfl) ?_
          refine Gx.val rfl rfl rfl (val_nilCheck rfl rfl) ?_
          refine Gx.val rfl rfl rfl (Val.cast (val_fieldAddr rfl Try.underlying42 rfl Try.ty39 rfl rfl) (v' := ptr b2 4) rfl) ?_
          refine Gx.val rfl rfl rfl (val_load rfl Try.ty39 rfl rfl (cell_rec (k := 3) rfl rfl)) ?_
          refine Gx.eff rfl rfl rfl (eff_call (vs := [av]) rfl Try.fn13 rfl (fun w H => clone_any (by omega) (H.at_ (k := 4) rfl))) ?_
          rintro _ l38 ⟨cw37, hicw37, rfl, hl38⟩
          refine Gx.sepEq (l' := [Hp.own FG 5 cw37 s.all, Hp.own FG 5 av s.all, Hp.own FB 1 (.slice sa28 sn29 sc30) (s.ps.map Pr.has), Hp.own FI 1 (.slice sa31 sn32 sc33) (s.ps.map Pr.val), Hp.rec_ b7 [.slice sa14 sn15 sc16, .slice sa28 sn29 sc30, .slice sa31 sn32 sc33, .int .i64 ((s.all.length : Nat) : Int), .int .i64 0], Hp.rec_ b2 [.int .i64 ((c.n : Nat) : Int), .int .i64 ((c.f : Nat) : Int), .int .u32 ((c.L : Nat) : Int), .int .i64 ((c.snd : Nat) : Int), av, pv, .bool s.st], Hp.own FR 5 pv pms, Hp.big rowH pms, Hp.own FZ 1 (.slice sa14 sn15 sc16) (codesB c (bs0 c.n) cs), Hp.rec_ b1 [.slice none 0 0, .slice none 0 0, .slice none 0 0, .int .i64 0, .int .i64 0]]) hl38 ?_
          refine Gx.val rfl rfl rfl (val_move rfl rfl) ?_
          refine Gx.eff rfl rfl rfl (eff_call (vs := [cw37, .func (.func 11) #[] #[]]) rfl Try.fn12 rfl (fun w H => delete_none hicw37 (by omega) hfc (H.at_ (k := 0) rfl))) ?_
          rintro _ l39 ⟨rfl, hl39⟩
          refine Gx.sepEq (l' := [Hp.own FG 5 cw37 s.all, Hp.own FG 5 av s.all, Hp.own FB 1 (.slice sa28 sn29 sc30) (s.ps.map Pr.has), Hp.own FI 1 (.slice sa31 sn32 sc33) (s.ps.map Pr.val), Hp.rec_ b7 [.slice sa14 sn15 sc16, .slice sa28 sn29 sc30, .slice sa31 sn32 sc33, .int .i64 ((s.all.length : Nat) : Int), .int .i64 0], Hp.rec_ b2 [.int .i64 ((c.n : Nat) : Int), .int .i64 ((c.f : Nat) : Int), .int .u32 ((c.L : Nat) : Int), .int .i64 ((c.snd : Nat) : Int), av, pv, .bool s.st], Hp.own FR 5 pv pms, Hp.big rowH pms, Hp.own FZ 1 (.slice sa14 sn15 sc16) (codesB c (bs0 c.n) cs), Hp.rec_ b1 [.slice none 0 0, .slice none 0 0, .slice none 0 0, .int .i64 0, .int .i64 0]]) hl39 ?_
          refine Gx.val rfl rfl rfl (val_len rfl Try.underlying39 rfl (len_own (k := 0) rfl)) ?_
          refine Gx.val rfl rfl rfl (Val.cast (val_fieldAddr rfl Try.underlying28 rfl Try.ty3 rfl rfl) (v' := ptr b7 4) rfl) ?_
          refine Gx.eff0 rfl rfl (eff_store rfl Try.ty3 rfl rfl (us := [.int .i64 ((s.all.length : Nat) : Int)]) rfl rfl rfl (k := 4) rfl (rfl) (vs' := [.slice sa14 sn15 sc16, .slice sa28 sn29 sc30, .slice sa31 sn32 sc33, .int .i64 ((s.all.length : Nat) : Int), .int .i64 ((s.all.length : Nat) : Int)]) (rfl) (l' := [Hp.own FG 5 cw37 s.all, Hp.own FG 5 av s.all, Hp.own FB 1 (.slice sa28 sn29 sc30) (s.ps.map Pr.has), Hp.own FI 1 (.slice sa31 sn32 sc33) (s.ps.map Pr.val), Hp.rec_ b7 [.slice sa14 sn15 sc16, .slice sa28 sn29 sc30, .slice sa31 sn32 sc33, .int .i64 ((s.all.length : Nat) : Int), .int .i64 ((s.all.length : Nat) : Int)], Hp.rec_ b2 [.int .i64 ((c.n : Nat) : Int), .int .i64 ((c.f : Nat) : Int), .int .u32 ((c.L : Nat) : Int), .int .i64 ((c.snd : Nat) : Int), av, pv, .bool s.st], Hp.own FR 5 pv pms, Hp.big rowH pms, Hp.own FZ 1 (.slice sa14 sn15 sc16) (codesB c (bs0 c.n) cs), Hp.rec_ b1 [.slice none 0 0, .slice none 0 0, .slice none 0 0, .int .i64 0, .int .i64 0]]) rfl) ?_
          rintro _ _ rfl
          refine Gx.done ?_
          refine Gx.thenN ?_
          refine Gx.seq ?_
          refine Gx.norm (l' := [Hp.own FG 5 cw37 s.all, Hp.own FG 5 av s.all, Hp.own FB 1 (.slice sa28 sn29 sc30) (s.ps.map Pr.has), Hp.own FI 1 (.slice sa31 sn32 sc33) (s.ps.map Pr.val), Hp.rec_ b7 [.slice sa14 sn15 sc16, .slice sa28 sn29 sc30, .slice sa31 sn32 sc33, .int .i64 ((s.all.length : Nat) : Int), .int .i64 ((notC s.all : Nat) : Int)], Hp.rec_ b2 [.int .i64 ((c.n : Nat) : Int), .int .i64 ((c.f : Nat) : Int), .int .u32 ((c.L : Nat) : Int), .int .i64 ((c.snd : Nat) : Int), av, pv, .bool s.st], Hp.own FR 5 pv pms, Hp.big rowH pms, Hp.own FZ 1 (.slice sa14 sn15 sc16) (codesB c (bs0 c.n) cs), Hp.rec_ b1 [.slice none 0 0, .slice none 0 0, .slice none 0 0, .int .i64 0, .int .i64 0]]) (by first | rfl | (rw [hnn] <;> rfl)) ?_
          refine Gx.region ?_
          refine Gx.val rfl rfl rfl (Val.cast (val_loadA rfl Try.ty28 rfl rfl rfl (cells_rec (k := 4) rfl)) (v' := .agg #[.slice sa14 sn15 sc16, .slice sa28 sn29 sc30, .slice sa31 sn32 sc33, .int .i64 ((s.all.length : Nat) : Int), .int .i64 ((notC s.all : Nat) : Int)]) rfl) ?_
          refine Gx.eff0 rfl rfl (eff_store rfl Try.ty28 rfl rfl (us := [.slice sa14 sn15 sc16, .slice sa28 sn29 sc30, .slice sa31 sn32 sc33, .int .i64 ((s.all.length : Nat) : Int), .int .i64 ((notC s.all : Nat) : Int)]) rfl rfl rfl (k := 9) rfl (rfl) (vs' := [.slice sa14 sn15 sc16, .slice sa28 sn29 sc30, .slice sa31 sn32 sc33, .int .i64 ((s.all.length : Nat) : Int), .int .i64 ((notC s.all : Nat) : Int)]) (rfl) (l' := [Hp.own FG 5 cw37 s.all, Hp.own FG 5 av s.all, Hp.own FB 1 (.slice sa28 sn29 sc30) (s.ps.map Pr.has), Hp.own FI 1 (.slice sa31 sn32 sc33) (s.ps.map Pr.val), Hp.rec_ b7 [.slice sa14 sn15 sc16, .slice sa28 sn29 sc30, .slice sa31 sn32 sc33, .int .i64 ((s.all.length : Nat) : Int), .int .i64 ((notC s.all : Nat) : Int)], Hp.rec_ b2 [.int .i64 ((c.n : Nat) : Int), .int .i64 ((c.f : Nat) : Int), .int .u32 ((c.L : Nat) : Int), .int .i64 ((c.snd : Nat) : Int), av, pv, .bool s.st], Hp.own FR 5 pv pms, Hp.big rowH pms, Hp.own FZ 1 (.slice sa14 sn15 sc16) (codesB c (bs0 c.n) cs), Hp.rec_ b1 [.slice sa14 sn15 sc16, .slice sa28 sn29 sc30, .slice sa31 sn32 sc33, .int .i64 ((s.all.length : Nat) : Int), .int .i64 ((notC s.all : Nat) : Int)]]) rfl) ?_
          rintro _ _ rfl
          refine Gx.val rfl rfl rfl (val_assign rfl rfl) ?_
          refine Gx.done ?_
          refine Gx.thenN ?_
          refine Gx.ret ?_
          refine Gx.drop 7 rfl ?_
          refine Gx.drop 6 rfl ?_
          refine Gx.drop 5 rfl ?_
          refine Gx.drop 4 rfl ?_
          refine Gx.drop 1 rfl ?_
          refine Gx.drop 0 rfl ?_
          refine Gx.front 3 rfl ?_
          refine Gx.front 2 rfl ?_
          refine Gx.front 2 rfl ?_
          refine Gx.front 3 rfl ?_
          refine Gx.retC2 Try.results7 Try.ty28 rfl rfl (us := [.slice sa14 sn15 sc16, .slice sa28 sn29 sc30, .slice sa31 sn32 sc33, .int .i64 ((s.all.length : Nat) : Int), .int .i64 ((notC s.all : Nat) : Int)]) rfl (k := 3) rfl rfl ?_
          subst hsd
          exact ⟨_, _, _, _, rfl, rfl⟩
  rintro v l w ⟨cv, wv, uv, P, rfl, rfl⟩ H
  have bd := BdB.run hsn (cs := cs) cs.length (Nat.le_refl _)
  rw [List.take_length] at bd
  have hln := bd.len
  exact ⟨cv, wv, uv, rfl, (H.at_ (k := 0) rfl).sls (by rw [codesB_len]; omega), (H.at_ (k := 1) rfl).sls (by rw [List.length_map]; omega), (H.at_ (k := 2) rfl).sls (by rw [List.length_map]; omega)⟩
end Go.Proofs.Ytbfcfekpfgpfbaa
