/- Behind all merges what was set last is of the greatest stamp that anybody gave. The walk. No condition. -/
import Derived.Test.YtfpkfbffpkjgbaaM3
import Derived.Test.YtfpkfbffpkjgbaaB1
import Derived.Test.YtfpkfbffpkjgbaaW2
namespace Go.Proofs.Ytfpkfbffpkjgbaa
open Go.RowKit
set_option linter.unusedVariables false
set_option linter.unusedSimpArgs false
set_option maxRecDepth 100000

theorem last_no {W : World} {z : Int} {sv : Value} {xs : List Sy} (hs : SlS FY 5 W sv xs) (hbad : z < 1 ∨ 4 < z ∨ 120 < (xs.length : Int) + 2 * z * z ∨ 60 < (xs.length : Int)) :
    Calls Try.prog 6 #[.int .i64 z, sv] W fun e w' => e = .returned (.bool true) ∧ Below W.heap.size W w' := by
  have hm9 := sls_bd hs
  refine calls_pure (Gx.enter (l := []) Try.func6 rfl Try.ntmps6 rfl (Sat.start W) ?_)
  refine Gx.know (m' := [(0, .int .i64 z), (1, sv)]) (.cons rfl (.cons rfl .nil)) ?_
  refine Gx.seq ?_
  refine Gx.region ?_
  refine Gx.val rfl rfl rfl (val_assign rfl rfl) ?_
  refine Gx.done ?_
  refine Gx.thenN ?_
  refine Gx.seq ?_
  refine Gx.seq ?_
  refine Gx.region ?_
  refine Gx.val rfl rfl rfl (val_move rfl rfl) ?_
  refine Gx.val rfl rfl rfl (val_lss rfl rfl rfl) ?_
  refine Gx.val rfl rfl rfl (val_move rfl rfl) ?_
  refine Gx.cases (t := 19) rfl (fun h1 => ?_) (fun h1 => ?_)
  · refine Gx.skipg rfl rfl rfl rfl rfl rfl ?_
    refine Gx.skipg rfl rfl rfl rfl rfl rfl ?_
    refine Gx.val rfl rfl rfl (val_pickT rfl rfl rfl) ?_
    refine Gx.val rfl rfl rfl (val_move rfl rfl) ?_
    refine Gx.skipg rfl rfl rfl rfl rfl rfl ?_
    refine Gx.skipg rfl rfl rfl rfl rfl rfl ?_
    refine Gx.skipg rfl rfl rfl rfl rfl rfl ?_
    refine Gx.skipg rfl rfl rfl rfl rfl rfl ?_
    refine Gx.skipg rfl rfl rfl rfl rfl rfl ?_
    refine Gx.skipg rfl rfl rfl rfl rfl rfl ?_
    refine Gx.skipg rfl rfl rfl rfl rfl rfl ?_
    refine Gx.skipg rfl rfl rfl rfl rfl rfl ?_
    refine Gx.val rfl rfl rfl (val_pickT rfl rfl rfl) ?_
    refine Gx.val rfl rfl rfl (val_move rfl rfl) ?_
    refine Gx.skipg rfl rfl rfl rfl rfl rfl ?_
    refine Gx.skipg rfl rfl rfl rfl rfl rfl ?_
    refine Gx.skipg rfl rfl rfl rfl rfl rfl ?_
    refine Gx.val rfl rfl rfl (val_pickT rfl rfl rfl) ?_
    refine Gx.done ?_
    refine Gx.thenN ?_
    refine Gx.t rfl ?_
    refine Gx.seq ?_
    refine Gx.region ?_
    refine Gx.val rfl rfl rfl (val_assign rfl rfl) ?_
    refine Gx.done ?_
    refine Gx.thenN ?_
    refine Gx.ret ?_
    refine Gx.thenR ?_
    refine Gx.ret1 Try.results6 rfl ?_
    rfl
  refine Gx.valg rfl rfl rfl rfl rfl (val_move rfl rfl) ?_
  refine Gx.valg rfl rfl rfl rfl rfl (val_gtr rfl rfl rfl) ?_
  refine Gx.val rfl rfl rfl (val_pickF rfl rfl rfl) ?_
  refine Gx.val rfl rfl rfl (val_move rfl rfl) ?_
  refine Gx.cases (t := 23) rfl (fun h2 => ?_) (fun h2 => ?_)
  · refine Gx.skipg rfl rfl rfl rfl rfl rfl ?_
    refine Gx.skipg rfl rfl rfl rfl rfl rfl ?_
    refine Gx.skipg rfl rfl rfl rfl rfl rfl ?_
    refine Gx.skipg rfl rfl rfl rfl rfl rfl ?_
    refine Gx.skipg rfl rfl rfl rfl rfl rfl ?_
    refine Gx.skipg rfl rfl rfl rfl rfl rfl ?_
    refine Gx.skipg rfl rfl rfl rfl rfl rfl ?_
    refine Gx.skipg rfl rfl rfl rfl rfl rfl ?_
    refine Gx.val rfl rfl rfl (val_pickT rfl rfl rfl) ?_
    refine Gx.val rfl rfl rfl (val_move rfl rfl) ?_
    refine Gx.skipg rfl rfl rfl rfl rfl rfl ?_
    refine Gx.skipg rfl rfl rfl rfl rfl rfl ?_
    refine Gx.skipg rfl rfl rfl rfl rfl rfl ?_
    refine Gx.val rfl rfl rfl (val_pickT rfl rfl rfl) ?_
    refine Gx.done ?_
    refine Gx.thenN ?_
    refine Gx.t rfl ?_
    refine Gx.seq ?_
    refine Gx.region ?_
    refine Gx.val rfl rfl rfl (val_assign rfl rfl) ?_
    refine Gx.done ?_
    refine Gx.thenN ?_
    refine Gx.ret ?_
    refine Gx.thenR ?_
    refine Gx.ret1 Try.results6 rfl ?_
    rfl
  refine Gx.valg rfl rfl rfl rfl rfl (val_move rfl rfl) ?_
  refine Gx.valg rfl rfl rfl rfl rfl (val_len rfl Try.underlying34 rfl (len_base hs)) ?_
  refine Gx.valg rfl rfl rfl rfl rfl (val_move rfl rfl) ?_
  refine Gx.valg rfl rfl rfl rfl rfl (val_mul rfl rfl rfl (r := (2 * z)) (w64 rfl (by omega))) ?_
  refine Gx.valg rfl rfl rfl rfl rfl (val_move rfl rfl) ?_
  refine Gx.valg rfl rfl rfl rfl rfl (val_mul rfl rfl rfl (r := (2 * z * z)) (w64 rfl (by have := sq_bd (z := z) (by omega) (by omega); omega))) ?_
  refine Gx.valg rfl rfl rfl rfl rfl (val_add rfl rfl rfl (r := (xs.length + 2 * z * z)) (w64 (by omega) (by have := sq_bd (z := z) (by omega) (by omega); omega))) ?_
  refine Gx.valg rfl rfl rfl rfl rfl (val_gtr rfl rfl rfl) ?_
  refine Gx.val rfl rfl rfl (val_pickF rfl rfl rfl) ?_
  refine Gx.val rfl rfl rfl (val_move rfl rfl) ?_
  refine Gx.cases (t := 33) rfl (fun h3 => ?_) (fun h3 => ?_)
  · refine Gx.skipg rfl rfl rfl rfl rfl rfl ?_
    refine Gx.skipg rfl rfl rfl rfl rfl rfl ?_
    refine Gx.skipg rfl rfl rfl rfl rfl rfl ?_
    refine Gx.val rfl rfl rfl (val_pickT rfl rfl rfl) ?_
    refine Gx.done ?_
    refine Gx.thenN ?_
    refine Gx.t rfl ?_
    refine Gx.seq ?_
    refine Gx.region ?_
    refine Gx.val rfl rfl rfl (val_assign rfl rfl) ?_
    refine Gx.done ?_
    refine Gx.thenN ?_
    refine Gx.ret ?_
    refine Gx.thenR ?_
    refine Gx.ret1 Try.results6 rfl ?_
    rfl
  refine Gx.valg rfl rfl rfl rfl rfl (val_move rfl rfl) ?_
  refine Gx.valg rfl rfl rfl rfl rfl (val_len rfl Try.underlying34 rfl (len_base hs)) ?_
  refine Gx.valg rfl rfl rfl rfl rfl (val_gtr rfl rfl rfl) ?_
  refine Gx.val rfl rfl rfl (val_pickF rfl rfl rfl) ?_
  refine Gx.done ?_
  refine Gx.thenN ?_
  refine Gx.dec rfl (fun h4 => ?_) (fun h4 => ?_)
  · refine Gx.seq ?_
    refine Gx.region ?_
    refine Gx.val rfl rfl rfl (val_assign rfl rfl) ?_
    refine Gx.done ?_
    refine Gx.thenN ?_
    refine Gx.ret ?_
    refine Gx.thenR ?_
    refine Gx.ret1 Try.results6 rfl ?_
    rfl
  exfalso; omega

theorem last_yes {W : World} {n : Nat} {sv : Value} {xs : List Sy} (hs : SlS FY 5 W sv xs) (h1n : 1 ≤ n) (h4n : n ≤ 4) (hl1 : xs.length + 2 * n * n ≤ 120) (hl2 : xs.length ≤ 60) :
    Calls Try.prog 6 #[.int .i64 ((n : Nat) : Int), sv] W fun e w' => e = .returned (.bool true) ∧ Below W.heap.size W w' := by
  have hm9 := sls_bd hs
  have hnn : 2 * n * n ≤ 32 := by
    have q := Nat.mul_le_mul h4n h4n
    rw [Nat.mul_assoc]; omega
  have htl : (tms n 2).length ≤ 2 * n * n := by rw [Nat.mul_assoc]; exact tms_len n 2
  have hLl : (xs ++ tms n 2).length = xs.length + (tms n 2).length := List.length_append
  obtain ⟨G, hI⟩ := InvM.run xs (InvM.start h1n) (Int.le_refl 0)
  have hA : 0 + adds xs ≤ 60 := by have := adds_len xs; omega
  obtain ⟨hsy1, hsy2⟩ := hI.sync hA
  refine calls_pure (Gx.enter (l := []) Try.func6 rfl Try.ntmps6 rfl (Sat.start W) ?_)
  refine Gx.know (m' := [(0, .int .i64 ((n : Nat) : Int)), (1, sv)]) (.cons rfl (.cons rfl .nil)) ?_
  refine Gx.seq ?_
  refine Gx.region ?_
  refine Gx.val rfl rfl rfl (val_assign rfl rfl) ?_
  refine Gx.done ?_
  refine Gx.thenN ?_
  refine Gx.seq ?_
  refine Gx.seq ?_
  refine Gx.region ?_
  refine Gx.val rfl rfl rfl (val_move rfl rfl) ?_
  refine Gx.val rfl rfl rfl (val_lss rfl rfl rfl) ?_
  refine Gx.val rfl rfl rfl (val_move rfl rfl) ?_
  refine Gx.slot (t := 19) (v := .bool false) (look_decF rfl (by omega)) ?_
  refine Gx.valg rfl rfl rfl rfl rfl (val_move rfl rfl) ?_
  refine Gx.valg rfl rfl rfl rfl rfl (val_gtr rfl rfl rfl) ?_
  refine Gx.val rfl rfl rfl (val_pickF rfl rfl rfl) ?_
  refine Gx.val rfl rfl rfl (val_move rfl rfl) ?_
  refine Gx.slot (t := 23) (v := .bool false) (look_decF rfl (by omega)) ?_
  refine Gx.valg rfl rfl rfl rfl rfl (val_move rfl rfl) ?_
  refine Gx.valg rfl rfl rfl rfl rfl (val_len rfl Try.underlying34 rfl (len_base hs)) ?_
  refine Gx.valg rfl rfl rfl rfl rfl (val_move rfl rfl) ?_
  refine Gx.valg rfl rfl rfl rfl rfl (val_mul rfl rfl rfl (r := ((2 * n : Nat) : Int)) (w64 (by omega) (by omega))) ?_
  refine Gx.valg rfl rfl rfl rfl rfl (val_move rfl rfl) ?_
  refine Gx.valg rfl rfl rfl rfl rfl (val_mul rfl rfl rfl (r := ((2 * n * n : Nat) : Int)) (w64 (Int.natCast_mul _ _).symm (by omega))) ?_
  refine Gx.valg rfl rfl rfl rfl rfl (val_add rfl rfl rfl (r := ((xs.length + 2 * n * n : Nat) : Int)) (w64 (by omega) (by omega))) ?_
  refine Gx.valg rfl rfl rfl rfl rfl (val_gtr rfl rfl rfl) ?_
  refine Gx.val rfl rfl rfl (val_pickF rfl rfl rfl) ?_
  refine Gx.val rfl rfl rfl (val_move rfl rfl) ?_
  refine Gx.slot (t := 33) (v := .bool false) (look_decF rfl (by omega)) ?_
  refine Gx.valg rfl rfl rfl rfl rfl (val_move rfl rfl) ?_
  refine Gx.valg rfl rfl rfl rfl rfl (val_len rfl Try.underlying34 rfl (len_base hs)) ?_
  refine Gx.valg rfl rfl rfl rfl rfl (val_gtr rfl rfl rfl) ?_
  refine Gx.val rfl rfl rfl (val_pickF rfl rfl rfl) ?_
  refine Gx.done ?_
  refine Gx.thenN ?_
  refine Gx.decF rfl (by omega) ?_
  refine Gx.skip ?_
  refine Gx.thenN ?_
  refine Gx.seq ?_
  refine Gx.region ?_
  refine Gx.val rfl rfl rfl (val_move rfl rfl) ?_
  refine Gx.val rfl rfl rfl (val_move rfl rfl) ?_
  refine Gx.callB rfl rfl rfl (vs := [.int .i64 ((n : Nat) : Int), sv]) rfl Try.fn12 rfl (R := (fun v w' => ∃ (av cv : Value) (ms : List Cm), v = .tuple #[av, cv, .int .i64 0] ∧ ms.map Cm.c = stM n (ms0 n) xs ∧ SlS FC 6 w' av ms ∧ SlS FE 1 w' cv (codesM n (ms0 n) xs) ∧ ∀ m ∈ ms, RowsS w' m)) (fun w H => play_ok (n := n) (by omega) (by omega) (hs.below H.below) (by omega)) ?_
  rintro _ W1 ⟨av1, cv1, ms1, rfl, hms1, hsa1, hsc1, hr1⟩ H2
  have hW3 := H2.below
  have hs4 := hs.below H2.below
  refine Gx.val rfl rfl rfl (val_move rfl rfl) ?_
  refine Gx.val rfl rfl rfl (val_extract rfl rfl rfl) ?_
  refine Gx.val rfl rfl rfl (val_extract rfl rfl rfl) ?_
  refine Gx.val rfl rfl rfl (val_extract rfl rfl rfl) ?_
  refine Gx.val rfl rfl rfl (val_assign rfl rfl) ?_
  refine Gx.val rfl rfl rfl (val_assign rfl rfl) ?_
  refine Gx.val rfl rfl rfl (val_assign rfl rfl) ?_
  refine Gx.done ?_
  refine Gx.thenN ?_
  refine Gx.seq ?_
  refine Gx.region ?_
  refine Gx.val rfl rfl rfl (val_move rfl rfl) ?_
  refine Gx.val rfl rfl rfl (val_move rfl rfl) ?_
  refine Gx.val rfl rfl rfl (val_move rfl rfl) ?_
  refine Gx.eff rfl rfl rfl (eff_callN (vs := [.int .i64 ((n : Nat) : Int), sv, .int .i64 2]) rfl Try.fn13 rfl (fun w H => synced_any (n := n) (hs4.below H.below) (by omega) (by omega))) ?_
  rintro sy5 _ ⟨_, ⟨hisy5, rfl⟩, rfl⟩
  refine Gx.norm (l' := [Hp.own FY 5 sy5 (xs ++ tms n 2)]) rfl ?_
  refine Gx.callB rfl rfl rfl (vs := [.int .i64 ((n : Nat) : Int), sy5]) rfl Try.fn12 rfl (R := (fun v w' => ∃ (av cv : Value) (ms : List Cm), v = .tuple #[av, cv, .int .i64 0] ∧ ms.map Cm.c = stM n (ms0 n) (xs ++ tms n 2) ∧ SlS FC 6 w' av ms ∧ SlS FE 1 w' cv (codesM n (ms0 n) (xs ++ tms n 2)) ∧ ∀ m ∈ ms, RowsS w' m)) (fun w H => play_ok (n := n) (by omega) (by omega) ((H.at_ (k := 0) rfl).sls (by omega)) (by omega)) ?_
  rintro _ W6 ⟨av2, cv2, ms2, rfl, hms2, hsa2, hsc2, hr2⟩ H7
  have hW8 := hW3.trans (H7.below.mono hW3.size)
  have hs9 := hs4.below H7.below
  have hs10 := hsa1.below H7.below
  have hs11 := hsc1.below H7.below
  have hs12 := (H7.at_ (k := 0) rfl).sls (by first | omega | (simp; done) | (simp; omega))
  have hr1 := fun m hm => (hr1 m hm).below H7.below
  refine Gx.val rfl rfl rfl (val_move rfl rfl) ?_
  refine Gx.val rfl rfl rfl (val_extract rfl rfl rfl) ?_
  refine Gx.val rfl rfl rfl (val_extract rfl rfl rfl) ?_
  refine Gx.val rfl rfl rfl (val_extract rfl rfl rfl) ?_
  refine Gx.val rfl rfl rfl (val_assign rfl rfl) ?_
  refine Gx.val rfl rfl rfl (val_assign rfl rfl) ?_
  refine Gx.val rfl rfl rfl (val_assign rfl rfl) ?_
  refine Gx.done ?_
  refine Gx.thenN ?_
  refine Gx.seq ?_
  refine Gx.seq ?_
  have hst2 := hms2
  rw [stM_app] at hst2
  have hml2 : ms2.length = n := by rw [← hsy1, ← hst2, List.length_map]
  have hcl2 : (codesM n (ms0 n) (xs ++ tms n 2)).length = xs.length + (tms n 2).length := by rw [codesM_len, hLl]
  have hJ2 : ∀ m ∈ ms2, IsJ n (stM n (ms0 n) xs) (fun i => i < n) m.c := fun m hm => hsy2 m.c (by rw [← hst2]; exact List.mem_map_of_mem hm)
  have hml1 : ms1.length = n := by rw [← hI.bd.len, ← hms1, List.length_map]
  have hcl1 : (codesM n (ms0 n) xs).length = xs.length := codesM_len _ _
  refine Gx.region ?_
  refine Gx.val rfl rfl rfl (val_move rfl rfl) ?_
  refine Gx.val rfl rfl rfl (Val.cast (val_neq rfl rfl rfl) (v' := .bool false) rfl) ?_
  refine Gx.val rfl rfl rfl (val_move rfl rfl) ?_
  refine Gx.valg rfl rfl rfl rfl rfl (val_move rfl rfl) ?_
  refine Gx.valg rfl rfl rfl rfl rfl (Val.cast (val_neq rfl rfl rfl) (v' := .bool false) rfl) ?_
  refine Gx.val rfl rfl rfl (val_pickF rfl rfl rfl) ?_
  refine Gx.val rfl rfl rfl (val_move rfl rfl) ?_
  refine Gx.valg rfl rfl rfl rfl rfl (val_move rfl rfl) ?_
  refine Gx.valg rfl rfl rfl rfl rfl (val_len rfl Try.underlying35 rfl (len_base hsa2)) ?_
  refine Gx.valg rfl rfl rfl rfl rfl (val_move rfl rfl) ?_
  refine Gx.valg rfl rfl rfl rfl rfl (val_neq rfl rfl rfl) ?_
  refine Gx.val rfl rfl rfl (val_pickF rfl rfl rfl) ?_
  refine Gx.val rfl rfl rfl (val_move rfl rfl) ?_
  refine Gx.slot (t := 66) (v := .bool false) (look_decF rfl (by omega)) ?_
  refine Gx.valg rfl rfl rfl rfl rfl (val_move rfl rfl) ?_
  refine Gx.valg rfl rfl rfl rfl rfl (val_len rfl Try.underlying35 rfl (len_base hs10)) ?_
  refine Gx.valg rfl rfl rfl rfl rfl (val_move rfl rfl) ?_
  refine Gx.valg rfl rfl rfl rfl rfl (val_neq rfl rfl rfl) ?_
  refine Gx.val rfl rfl rfl (val_pickF rfl rfl rfl) ?_
  refine Gx.val rfl rfl rfl (val_move rfl rfl) ?_
  refine Gx.slot (t := 72) (v := .bool false) (look_decF rfl (by omega)) ?_
  refine Gx.valg rfl rfl rfl rfl rfl (val_move rfl rfl) ?_
  refine Gx.valg rfl rfl rfl rfl rfl (val_len rfl Try.underlying36 rfl (len_base hs11)) ?_
  refine Gx.valg rfl rfl rfl rfl rfl (val_move rfl rfl) ?_
  refine Gx.valg rfl rfl rfl rfl rfl (val_len rfl Try.underlying34 rfl (len_base hs9)) ?_
  refine Gx.valg rfl rfl rfl rfl rfl (val_neq rfl rfl rfl) ?_
  refine Gx.val rfl rfl rfl (val_pickF rfl rfl rfl) ?_
  refine Gx.done ?_
  refine Gx.thenN ?_
  refine Gx.decF rfl (by omega) ?_
  refine Gx.skip ?_
  refine Gx.thenN ?_
  refine Gx.seq ?_
  obtain ⟨m0, hm0⟩ := get_of_lt (xs := ms2) (k := 0) (by omega)
  have hj0 := hJ2 m0 (List.mem_of_getElem? hm0)
  refine Gx.region ?_
  refine Gx.val rfl rfl rfl (val_move rfl rfl) ?_
  refine Gx.val rfl rfl rfl (val_ixa rfl Try.underlying35 Try.ty27 rfl rfl (j := 0) (rfl) (reach_base hsa2 hm0)) ?_
  refine Gx.val rfl rfl rfl (Val.cast (val_fieldAddr rfl Try.underlying27 rfl Try.ty24 rfl rfl) (v' := ptr (sB av2) (sO av2 + 0 * 6 + 1)) rfl) ?_
  refine Gx.val rfl rfl rfl (Val.cast (val_loadA rfl Try.ty24 rfl rfl (us := [.int .i64 m0.c.la.n, .int .i64 m0.c.la.who, .int .i64 m0.c.la.val]) rfl (cells_baseAt (i := 1) (n := 3) (sz := 6) (j := 0) hsa2 hm0 rfl)) (v' := .agg #[.int .i64 m0.c.la.n, .int .i64 m0.c.la.who, .int .i64 m0.c.la.val]) rfl) ?_
  refine Gx.eff rfl rfl rfl (eff_alloc rfl Try.ty24 (vs := [.int .i64 0, .int .i64 0, .int .i64 0]) rfl) ?_
  rintro _ _ ⟨b13, rfl, rfl⟩
  refine Gx.eff0 rfl rfl (eff_store rfl Try.ty24 rfl rfl (us := [.int .i64 m0.c.la.n, .int .i64 m0.c.la.who, .int .i64 m0.c.la.val]) rfl rfl rfl (k := 0) rfl (rfl) (vs' := [.int .i64 m0.c.la.n, .int .i64 m0.c.la.who, .int .i64 m0.c.la.val]) (rfl) (l' := [Hp.rec_ b13 [.int .i64 m0.c.la.n, .int .i64 m0.c.la.who, .int .i64 m0.c.la.val]]) rfl) ?_
  rintro _ _ rfl
  refine Gx.done ?_
  refine Gx.thenN ?_
  refine Gx.seq ?_
  refine Gx.region ?_
  refine Gx.val rfl rfl rfl (Val.cast (val_loadA rfl Try.ty24 rfl rfl rfl (cells_rec (k := 0) rfl)) (v' := .agg #[.int .i64 m0.c.la.n, .int .i64 m0.c.la.who, .int .i64 m0.c.la.val]) rfl) ?_
  refine Gx.val rfl rfl rfl (val_build rfl (qs := []) rfl rfl (fun w => by go_simp) (v := .agg #[.int .i64 0, .int .i64 0, .int .i64 0])) ?_
  refine Gx.val rfl rfl rfl (Val.cast (val_eqlR rfl rfl rfl (by kernel_rfl) (fun w => eqSp _ _ _ _ _ _ w)) (v' := .bool (decide (m0.c.la = (⟨0, 0, 0⟩ : Sp)))) (congrArg Value.bool (eqSpD (x := m0.c.la) (y := (⟨0, 0, 0⟩ : Sp))))) ?_
  refine Gx.val rfl rfl rfl (val_assign rfl rfl) ?_
  refine Gx.done ?_
  refine Gx.thenN ?_
  refine Gx.seq ?_
  refine Gx.seq ?_
  refine Gx.region ?_
  refine Gx.val rfl rfl rfl (val_move rfl rfl) ?_
  refine Gx.val rfl rfl rfl (val_len rfl Try.underlying34 rfl (len_base hs9)) ?_
  refine Gx.val rfl rfl rfl (val_move rfl rfl) ?_
  refine Gx.done ?_
  refine Gx.thenN ?_
  refine Gx.block ?_
  refine Gx.loop (ι := Nat × Bool) (fun ξ => (ξ.1 ≤ xs.length) ∧ (SetIn n xs ξ.1 m0.c.la → ξ.2 = true)) (fun ξ => [(0, .int .i64 ((n : Nat) : Int)), (1, sv), (5, av1), (6, cv1), (8, av2), (11, ptr b13 0), (86, sv), (87, .int .i64 ((xs.length : Nat) : Int)), (88, .int .i64 ((ξ.1 : Nat) : Int)), (12, .bool ξ.2)]) (fun ξ => [Hp.rec_ b13 [.int .i64 m0.c.la.n, .int .i64 m0.c.la.who, .int .i64 m0.c.la.val]]) (fun ξ => xs.length - ξ.1) (0, decide (m0.c.la = (⟨0, 0, 0⟩ : Sp))) ⟨by first | omega | (dsimp only; omega), fun hq => by
    rcases hq with h | ⟨h1, j, y, h2, _⟩
    · exact decide_eq_true h
    · omega⟩ ((.cons rfl (.cons rfl (.cons rfl (.cons rfl (.cons rfl (.cons rfl (.cons rfl (.cons rfl (.cons rfl (.cons rfl .nil))))))))))) rfl ?_
  rintro ⟨i, b⟩ ⟨hi, hb⟩
  dsimp only at hi hb
  refine Gx.know (m' := [(0, .int .i64 ((n : Nat) : Int)), (1, sv), (5, av1), (6, cv1), (8, av2), (11, ptr b13 0), (86, sv), (87, .int .i64 ((xs.length : Nat) : Int)), (88, .int .i64 ((i : Nat) : Int)), (12, .bool b)]) (.cons rfl (.cons rfl (.cons rfl (.cons rfl (.cons rfl (.cons rfl (.cons rfl (.cons rfl (.cons rfl (.cons rfl .nil)))))))))) (Gx.norm (l' := [Hp.rec_ b13 [.int .i64 m0.c.la.n, .int .i64 m0.c.la.who, .int .i64 m0.c.la.val]]) rfl ?_)
  refine Gx.seq ?_
  refine Gx.region ?_
  refine Gx.val rfl rfl rfl (val_lss rfl rfl rfl) ?_
  refine Gx.done ?_
  refine Gx.thenN ?_
  refine Gx.seq ?_
  refine Gx.dec rfl (fun h14 => ?_) (fun h14 => ?_)
  · refine Gx.skip ?_
    refine Gx.thenN ?_
    refine Gx.seq ?_
    refine Gx.block ?_
    refine Gx.seq ?_
    obtain ⟨x, hx⟩ := get_of_lt (xs := xs) (k := i) (by omega)
    obtain ⟨e, hcode⟩ := get_of_lt (xs := (codesM n (ms0 n) xs)) (k := i) (by omega)
    refine Gx.region ?_
    refine Gx.val rfl rfl rfl (val_move rfl rfl) ?_
    refine Gx.val rfl rfl rfl (val_ixa rfl Try.underlying34 Try.ty42 rfl rfl (j := i) (rfl) (reach_base hs9 hx)) ?_
    refine Gx.val rfl rfl rfl (Val.cast (val_loadA rfl Try.ty42 rfl rfl rfl (cells_base hs9 hx)) (v' := .agg #[.int .i64 x.kind, .int .i64 x.who, .int .i64 x.frm, .int .i64 x.item, .int .i64 x.n]) rfl) ?_
    refine Gx.eff rfl rfl rfl (eff_alloc rfl Try.ty42 (vs := [.int .i64 0, .int .i64 0, .int .i64 0, .int .i64 0, .int .i64 0]) rfl) ?_
    rintro _ _ ⟨b15, rfl, rfl⟩
    refine Gx.val rfl rfl rfl (val_assign rfl rfl) ?_
    refine Gx.eff0 rfl rfl (eff_store rfl Try.ty42 rfl rfl (us := [.int .i64 x.kind, .int .i64 x.who, .int .i64 x.frm, .int .i64 x.item, .int .i64 x.n]) rfl rfl rfl (k := 0) rfl (rfl) (vs' := [.int .i64 x.kind, .int .i64 x.who, .int .i64 x.frm, .int .i64 x.item, .int .i64 x.n]) (rfl) (l' := [Hp.rec_ b15 [.int .i64 x.kind, .int .i64 x.who, .int .i64 x.frm, .int .i64 x.item, .int .i64 x.n], Hp.rec_ b13 [.int .i64 m0.c.la.n, .int .i64 m0.c.la.who, .int .i64 m0.c.la.val]]) rfl) ?_
    rintro _ _ rfl
    refine Gx.done ?_
    refine Gx.thenN ?_
    refine Gx.region ?_
    refine Gx.val rfl rfl rfl (val_move rfl rfl) ?_
    refine Gx.val rfl rfl rfl (val_move rfl rfl) ?_
    refine Gx.casesB (t := 94) rfl (fun h16 => ?_) (fun h16 => ?_)
    · refine Gx.skipg rfl rfl rfl rfl rfl rfl ?_
      refine Gx.skipg rfl rfl rfl rfl rfl rfl ?_
      refine Gx.skipg rfl rfl rfl rfl rfl rfl ?_
      refine Gx.skipg rfl rfl rfl rfl rfl rfl ?_
      refine Gx.skipg rfl rfl rfl rfl rfl rfl ?_
      refine Gx.skipg rfl rfl rfl rfl rfl rfl ?_
      refine Gx.skipu rfl rfl rfl rfl rfl ?_
      refine Gx.skipu rfl rfl rfl rfl rfl ?_
      refine Gx.skipu rfl rfl rfl rfl rfl ?_
      refine Gx.skipg rfl rfl rfl rfl rfl rfl ?_
      refine Gx.skipg rfl rfl rfl rfl rfl rfl ?_
      refine Gx.skipu rfl rfl rfl rfl rfl ?_
      refine Gx.skipu rfl rfl rfl rfl rfl ?_
      refine Gx.skipu rfl rfl rfl rfl rfl ?_
      refine Gx.skipu rfl rfl rfl rfl rfl ?_
      refine Gx.skipu rfl rfl rfl rfl rfl ?_
      refine Gx.skipg rfl rfl rfl rfl rfl rfl ?_
      refine Gx.skipg rfl rfl rfl rfl rfl rfl ?_
      refine Gx.skipu rfl rfl rfl rfl rfl ?_
      refine Gx.skipu rfl rfl rfl rfl rfl ?_
      refine Gx.skipu rfl rfl rfl rfl rfl ?_
      refine Gx.skipu rfl rfl rfl rfl rfl ?_
      refine Gx.skipu rfl rfl rfl rfl rfl ?_
      refine Gx.skipg rfl rfl rfl rfl rfl rfl ?_
      refine Gx.skipg rfl rfl rfl rfl rfl rfl ?_
      refine Gx.skipu rfl rfl rfl rfl rfl ?_
      refine Gx.skipu rfl rfl rfl rfl rfl ?_
      refine Gx.skipu rfl rfl rfl rfl rfl ?_
      refine Gx.skipg rfl rfl rfl rfl rfl rfl ?_
      refine Gx.val rfl rfl rfl (val_pickT rfl rfl rfl) ?_
      refine Gx.val rfl rfl rfl (val_assign rfl rfl) ?_
      refine Gx.done ?_
      refine Gx.blkN ?_
      refine Gx.thenN ?_
      refine Gx.region ?_
      refine Gx.val rfl rfl rfl (val_add rfl rfl rfl (r := ((i + 1 : Nat) : Int)) (w64 (by omega) (by omega))) ?_
      refine Gx.val rfl rfl rfl (val_move rfl rfl) ?_
      refine Gx.done ?_
      refine Gx.thenN ?_
      refine Gx.drop 0 rfl ?_
      exact Gx.round (i + 1, true) ⟨by first | omega | (dsimp only; omega), fun _ => rfl⟩ (by first | omega | (dsimp only; omega)) ((.cons rfl (.cons rfl (.cons rfl (.cons rfl (.cons rfl (.cons rfl (.cons rfl (.cons rfl (.cons rfl (.cons rfl .nil))))))))))) rfl
    refine Gx.valg rfl rfl rfl rfl rfl (val_move rfl rfl) ?_
    refine Gx.valg rfl rfl rfl rfl rfl (val_move rfl rfl) ?_
    refine Gx.valg rfl rfl rfl rfl rfl (val_ixa rfl Try.underlying36 Try.ty28 rfl rfl (j := i) (rfl) (reach_base hs11 hcode)) ?_
    refine Gx.valg rfl rfl rfl rfl rfl (val_load rfl Try.ty28 rfl rfl (cell_base (i := 0) hs11 hcode rfl)) ?_
    refine Gx.valg rfl rfl rfl rfl rfl (val_eql rfl rfl rfl) ?_
    refine Gx.valg rfl rfl rfl rfl rfl (val_move rfl rfl) ?_
    refine Gx.cases (t := 100) rfl (fun h17 => ?_) (fun h17 => ?_)
    · refine Gx.valg rfl rfl rfl rfl rfl (Val.cast (val_fieldAddr rfl Try.underlying42 rfl Try.ty3 rfl rfl) (v' := ptr b15 0) rfl) ?_
      refine Gx.valg rfl rfl rfl rfl rfl (val_load rfl Try.ty3 rfl rfl (cell_rec (k := 0) rfl rfl)) ?_
      refine Gx.valg rfl rfl rfl rfl rfl (val_eql rfl rfl rfl) ?_
      refine Gx.valg rfl rfl rfl rfl rfl (val_pickT rfl rfl rfl) ?_
      refine Gx.valg rfl rfl rfl rfl rfl (val_move rfl rfl) ?_
      refine Gx.cases (t := 105) rfl (fun h18 => ?_) (fun h18 => ?_)
      · refine Gx.valg rfl rfl rfl rfl rfl (Val.cast (val_fieldAddr rfl Try.underlying42 rfl Try.ty3 rfl rfl) (v' := ptr b15 1) rfl) ?_
        refine Gx.valg rfl rfl rfl rfl rfl (val_load rfl Try.ty3 rfl rfl (cell_rec (k := 0) rfl rfl)) ?_
        refine Gx.valg rfl rfl rfl rfl rfl (Val.cast (val_fieldAddr rfl Try.underlying24 rfl Try.ty3 rfl rfl) (v' := ptr b13 1) rfl) ?_
        refine Gx.valg rfl rfl rfl rfl rfl (val_load rfl Try.ty3 rfl rfl (cell_rec (k := 1) rfl rfl)) ?_
        refine Gx.valg rfl rfl rfl rfl rfl (val_eql rfl rfl rfl) ?_
        refine Gx.valg rfl rfl rfl rfl rfl (val_pickT rfl rfl rfl) ?_
        refine Gx.valg rfl rfl rfl rfl rfl (val_move rfl rfl) ?_
        refine Gx.cases (t := 112) rfl (fun h19 => ?_) (fun h19 => ?_)
        · refine Gx.valg rfl rfl rfl rfl rfl (Val.cast (val_fieldAddr rfl Try.underlying42 rfl Try.ty2 rfl rfl) (v' := ptr b15 4) rfl) ?_
          refine Gx.valg rfl rfl rfl rfl rfl (val_load rfl Try.ty2 rfl rfl (cell_rec (k := 0) rfl rfl)) ?_
          refine Gx.valg rfl rfl rfl rfl rfl (Val.cast (val_fieldAddr rfl Try.underlying24 rfl Try.ty2 rfl rfl) (v' := ptr b13 2) rfl) ?_
          refine Gx.valg rfl rfl rfl rfl rfl (val_load rfl Try.ty2 rfl rfl (cell_rec (k := 1) rfl rfl)) ?_
          refine Gx.valg rfl rfl rfl rfl rfl (val_eql rfl rfl rfl) ?_
          refine Gx.valg rfl rfl rfl rfl rfl (val_pickT rfl rfl rfl) ?_
          refine Gx.valg rfl rfl rfl rfl rfl (val_move rfl rfl) ?_
          refine Gx.cases (t := 119) rfl (fun h20 => ?_) (fun h20 => ?_)
          · refine Gx.valg rfl rfl rfl rfl rfl (Val.cast (val_fieldAddr rfl Try.underlying24 rfl Try.ty3 rfl rfl) (v' := ptr b13 0) rfl) ?_
            refine Gx.valg rfl rfl rfl rfl rfl (val_load rfl Try.ty3 rfl rfl (cell_rec (k := 1) rfl rfl)) ?_
            refine Gx.valg rfl rfl rfl rfl rfl (val_gtr rfl rfl rfl) ?_
            refine Gx.valg rfl rfl rfl rfl rfl (val_pickT rfl rfl rfl) ?_
            refine Gx.val rfl rfl rfl (val_pickF rfl rfl rfl) ?_
            refine Gx.val rfl rfl rfl (val_assign rfl rfl) ?_
            refine Gx.done ?_
            refine Gx.blkN ?_
            refine Gx.thenN ?_
            refine Gx.region ?_
            refine Gx.val rfl rfl rfl (val_add rfl rfl rfl (r := ((i + 1 : Nat) : Int)) (w64 (by omega) (by omega))) ?_
            refine Gx.val rfl rfl rfl (val_move rfl rfl) ?_
            refine Gx.done ?_
            refine Gx.thenN ?_
            refine Gx.drop 0 rfl ?_
            exact Gx.round (i + 1, decide (0 < m0.c.la.n)) ⟨by first | omega | (dsimp only; omega), fun hq => by
              rcases hq with h | ⟨h1, j, y, h2, h3, h4, h5, h6, h7⟩
              · exact absurd (hb (.inl h)) (by rw [h16]; decide)
              · by_cases hji : j = i
                · subst hji
                  rw [hx] at h3; cases h3
                  have h8 := Option.some.inj (hcode.symm.trans h5)
                  first | exact decide_eq_true h1 | (exfalso; omega)
                · exact absurd (hb (.inr ⟨h1, j, y, by (try dsimp only at h2); omega, h3, h4, h5, h6, h7⟩)) (by rw [h16]; decide)⟩ (by first | omega | (dsimp only; omega)) ((.cons rfl (.cons rfl (.cons rfl (.cons rfl (.cons rfl (.cons rfl (.cons rfl (.cons rfl (.cons rfl (.cons rfl .nil))))))))))) rfl
          refine Gx.skipg rfl rfl rfl rfl rfl rfl ?_
          refine Gx.skipg rfl rfl rfl rfl rfl rfl ?_
          refine Gx.skipg rfl rfl rfl rfl rfl rfl ?_
          refine Gx.valg rfl rfl rfl rfl rfl (val_pickF rfl rfl rfl) ?_
          refine Gx.val rfl rfl rfl (val_pickF rfl rfl rfl) ?_
          refine Gx.val rfl rfl rfl (val_assign rfl rfl) ?_
          refine Gx.done ?_
          refine Gx.blkN ?_
          refine Gx.thenN ?_
          refine Gx.region ?_
          refine Gx.val rfl rfl rfl (val_add rfl rfl rfl (r := ((i + 1 : Nat) : Int)) (w64 (by omega) (by omega))) ?_
          refine Gx.val rfl rfl rfl (val_move rfl rfl) ?_
          refine Gx.done ?_
          refine Gx.thenN ?_
          refine Gx.drop 0 rfl ?_
          exact Gx.round (i + 1, false) ⟨by first | omega | (dsimp only; omega), fun hq => by
            rcases hq with h | ⟨h1, j, y, h2, h3, h4, h5, h6, h7⟩
            · exact absurd (hb (.inl h)) (by rw [h16]; decide)
            · by_cases hji : j = i
              · subst hji
                rw [hx] at h3; cases h3
                have h8 := Option.some.inj (hcode.symm.trans h5)
                first | exact decide_eq_true h1 | (exfalso; omega)
              · exact absurd (hb (.inr ⟨h1, j, y, by (try dsimp only at h2); omega, h3, h4, h5, h6, h7⟩)) (by rw [h16]; decide)⟩ (by first | omega | (dsimp only; omega)) ((.cons rfl (.cons rfl (.cons rfl (.cons rfl (.cons rfl (.cons rfl (.cons rfl (.cons rfl (.cons rfl (.cons rfl .nil))))))))))) rfl
        refine Gx.skipg rfl rfl rfl rfl rfl rfl ?_
        refine Gx.skipg rfl rfl rfl rfl rfl rfl ?_
        refine Gx.skipg rfl rfl rfl rfl rfl rfl ?_
        refine Gx.skipg rfl rfl rfl rfl rfl rfl ?_
        refine Gx.skipg rfl rfl rfl rfl rfl rfl ?_
        refine Gx.valg rfl rfl rfl rfl rfl (val_pickF rfl rfl rfl) ?_
        refine Gx.valg rfl rfl rfl rfl rfl (val_move rfl rfl) ?_
        refine Gx.skipg rfl rfl rfl rfl rfl rfl ?_
        refine Gx.skipg rfl rfl rfl rfl rfl rfl ?_
        refine Gx.skipg rfl rfl rfl rfl rfl rfl ?_
        refine Gx.valg rfl rfl rfl rfl rfl (val_pickF rfl rfl rfl) ?_
        refine Gx.val rfl rfl rfl (val_pickF rfl rfl rfl) ?_
        refine Gx.val rfl rfl rfl (val_assign rfl rfl) ?_
        refine Gx.done ?_
        refine Gx.blkN ?_
        refine Gx.thenN ?_
        refine Gx.region ?_
        refine Gx.val rfl rfl rfl (val_add rfl rfl rfl (r := ((i + 1 : Nat) : Int)) (w64 (by omega) (by omega))) ?_
        refine Gx.val rfl rfl rfl (val_move rfl rfl) ?_
        refine Gx.done ?_
        refine Gx.thenN ?_
        refine Gx.drop 0 rfl ?_
        exact Gx.round (i + 1, false) ⟨by first | omega | (dsimp only; omega), fun hq => by
          rcases hq with h | ⟨h1, j, y, h2, h3, h4, h5, h6, h7⟩
          · exact absurd (hb (.inl h)) (by rw [h16]; decide)
          · by_cases hji : j = i
            · subst hji
              rw [hx] at h3; cases h3
              have h8 := Option.some.inj (hcode.symm.trans h5)
              first | exact decide_eq_true h1 | (exfalso; omega)
            · exact absurd (hb (.inr ⟨h1, j, y, by (try dsimp only at h2); omega, h3, h4, h5, h6, h7⟩)) (by rw [h16]; decide)⟩ (by first | omega | (dsimp only; omega)) ((.cons rfl (.cons rfl (.cons rfl (.cons rfl (.cons rfl (.cons rfl (.cons rfl (.cons rfl (.cons rfl (.cons rfl .nil))))))))))) rfl
      refine Gx.skipg rfl rfl rfl rfl rfl rfl ?_
      refine Gx.skipg rfl rfl rfl rfl rfl rfl ?_
      refine Gx.skipg rfl rfl rfl rfl rfl rfl ?_
      refine Gx.skipg rfl rfl rfl rfl rfl rfl ?_
      refine Gx.skipg rfl rfl rfl rfl rfl rfl ?_
      refine Gx.valg rfl rfl rfl rfl rfl (val_pickF rfl rfl rfl) ?_
      refine Gx.valg rfl rfl rfl rfl rfl (val_move rfl rfl) ?_
      refine Gx.skipg rfl rfl rfl rfl rfl rfl ?_
      refine Gx.skipg rfl rfl rfl rfl rfl rfl ?_
      refine Gx.skipg rfl rfl rfl rfl rfl rfl ?_
      refine Gx.skipg rfl rfl rfl rfl rfl rfl ?_
      refine Gx.skipg rfl rfl rfl rfl rfl rfl ?_
      refine Gx.valg rfl rfl rfl rfl rfl (val_pickF rfl rfl rfl) ?_
      refine Gx.valg rfl rfl rfl rfl rfl (val_move rfl rfl) ?_
      refine Gx.skipg rfl rfl rfl rfl rfl rfl ?_
      refine Gx.skipg rfl rfl rfl rfl rfl rfl ?_
      refine Gx.skipg rfl rfl rfl rfl rfl rfl ?_
      refine Gx.valg rfl rfl rfl rfl rfl (val_pickF rfl rfl rfl) ?_
      refine Gx.val rfl rfl rfl (val_pickF rfl rfl rfl) ?_
      refine Gx.val rfl rfl rfl (val_assign rfl rfl) ?_
      refine Gx.done ?_
      refine Gx.blkN ?_
      refine Gx.thenN ?_
      refine Gx.region ?_
      refine Gx.val rfl rfl rfl (val_add rfl rfl rfl (r := ((i + 1 : Nat) : Int)) (w64 (by omega) (by omega))) ?_
      refine Gx.val rfl rfl rfl (val_move rfl rfl) ?_
      refine Gx.done ?_
      refine Gx.thenN ?_
      refine Gx.drop 0 rfl ?_
      exact Gx.round (i + 1, false) ⟨by first | omega | (dsimp only; omega), fun hq => by
        rcases hq with h | ⟨h1, j, y, h2, h3, h4, h5, h6, h7⟩
        · exact absurd (hb (.inl h)) (by rw [h16]; decide)
        · by_cases hji : j = i
          · subst hji
            rw [hx] at h3; cases h3
            have h8 := Option.some.inj (hcode.symm.trans h5)
            first | exact decide_eq_true h1 | (exfalso; omega)
          · exact absurd (hb (.inr ⟨h1, j, y, by (try dsimp only at h2); omega, h3, h4, h5, h6, h7⟩)) (by rw [h16]; decide)⟩ (by first | omega | (dsimp only; omega)) ((.cons rfl (.cons rfl (.cons rfl (.cons rfl (.cons rfl (.cons rfl (.cons rfl (.cons rfl (.cons rfl (.cons rfl .nil))))))))))) rfl
    refine Gx.skipg rfl rfl rfl rfl rfl rfl ?_
    refine Gx.skipg rfl rfl rfl rfl rfl rfl ?_
    refine Gx.skipg rfl rfl rfl rfl rfl rfl ?_
    refine Gx.valg rfl rfl rfl rfl rfl (val_pickF rfl rfl rfl) ?_
    refine Gx.valg rfl rfl rfl rfl rfl (val_move rfl rfl) ?_
    refine Gx.skipg rfl rfl rfl rfl rfl rfl ?_
    refine Gx.skipg rfl rfl rfl rfl rfl rfl ?_
    refine Gx.skipg rfl rfl rfl rfl rfl rfl ?_
    refine Gx.skipg rfl rfl rfl rfl rfl rfl ?_
    refine Gx.skipg rfl rfl rfl rfl rfl rfl ?_
    refine Gx.valg rfl rfl rfl rfl rfl (val_pickF rfl rfl rfl) ?_
    refine Gx.valg rfl rfl rfl rfl rfl (val_move rfl rfl) ?_
    refine Gx.skipg rfl rfl rfl rfl rfl rfl ?_
    refine Gx.skipg rfl rfl rfl rfl rfl rfl ?_
    refine Gx.skipg rfl rfl rfl rfl rfl rfl ?_
    refine Gx.skipg rfl rfl rfl rfl rfl rfl ?_
    refine Gx.skipg rfl rfl rfl rfl rfl rfl ?_
    refine Gx.valg rfl rfl rfl rfl rfl (val_pickF rfl rfl rfl) ?_
    refine Gx.valg rfl rfl rfl rfl rfl (val_move rfl rfl) ?_
    refine Gx.skipg rfl rfl rfl rfl rfl rfl ?_
    refine Gx.skipg rfl rfl rfl rfl rfl rfl ?_
    refine Gx.skipg rfl rfl rfl rfl rfl rfl ?_
    refine Gx.valg rfl rfl rfl rfl rfl (val_pickF rfl rfl rfl) ?_
    refine Gx.val rfl rfl rfl (val_pickF rfl rfl rfl) ?_
    refine Gx.val rfl rfl rfl (val_assign rfl rfl) ?_
    refine Gx.done ?_
    refine Gx.blkN ?_
    refine Gx.thenN ?_
    refine Gx.region ?_
    refine Gx.val rfl rfl rfl (val_add rfl rfl rfl (r := ((i + 1 : Nat) : Int)) (w64 (by omega) (by omega))) ?_
    refine Gx.val rfl rfl rfl (val_move rfl rfl) ?_
    refine Gx.done ?_
    refine Gx.thenN ?_
    refine Gx.drop 0 rfl ?_
    exact Gx.round (i + 1, false) ⟨by first | omega | (dsimp only; omega), fun hq => by
      rcases hq with h | ⟨h1, j, y, h2, h3, h4, h5, h6, h7⟩
      · exact absurd (hb (.inl h)) (by rw [h16]; decide)
      · by_cases hji : j = i
        · subst hji
          rw [hx] at h3; cases h3
          have h8 := Option.some.inj (hcode.symm.trans h5)
          first | exact decide_eq_true h1 | (exfalso; omega)
        · exact absurd (hb (.inr ⟨h1, j, y, by (try dsimp only at h2); omega, h3, h4, h5, h6, h7⟩)) (by rw [h16]; decide)⟩ (by first | omega | (dsimp only; omega)) ((.cons rfl (.cons rfl (.cons rfl (.cons rfl (.cons rfl (.cons rfl (.cons rfl (.cons rfl (.cons rfl (.cons rfl .nil))))))))))) rfl
  refine Gx.exit ?_
  refine Gx.thenE ?_
  refine Gx.thenE ?_
  refine Gx.blkE ?_
  refine Gx.thenN ?_
  refine Gx.seq ?_
  refine Gx.seq ?_
  have hfin : b = true := hb (by
    obtain ⟨a, ha, hae⟩ := hj0.laM
    rw [← hae, show i = xs.length by omega]
    exact set_in h1n xs xs.length (Nat.le_refl _) a (by rw [List.take_length]; exact ha))
  refine Gx.region ?_
  refine Gx.val rfl rfl rfl (val_assign rfl rfl) ?_
  refine Gx.done ?_
  refine Gx.thenN ?_
  refine Gx.block ?_
  refine Gx.loop (ι := Nat) (fun ξ => (ξ ≤ n)) (fun ξ => [(0, .int .i64 ((n : Nat) : Int)), (5, av1), (11, ptr b13 0), (12, .bool b), (15, .int .i64 ((ξ : Nat) : Int))]) (fun ξ => [Hp.rec_ b13 [.int .i64 m0.c.la.n, .int .i64 m0.c.la.who, .int .i64 m0.c.la.val]]) (fun ξ => n - ξ) 0 (by first | omega | (dsimp only; omega)) ((.cons rfl (.cons rfl (.cons rfl (.cons rfl (.cons rfl .nil)))))) rfl ?_
  rintro q hq
  refine Gx.know (m' := [(0, .int .i64 ((n : Nat) : Int)), (5, av1), (11, ptr b13 0), (12, .bool b), (15, .int .i64 ((q : Nat) : Int))]) (.cons rfl (.cons rfl (.cons rfl (.cons rfl (.cons rfl .nil))))) (Gx.norm (l' := [Hp.rec_ b13 [.int .i64 m0.c.la.n, .int .i64 m0.c.la.who, .int .i64 m0.c.la.val]]) rfl ?_)
  refine Gx.seq ?_
  refine Gx.seq ?_
  refine Gx.region ?_
  refine Gx.val rfl rfl rfl (val_move rfl rfl) ?_
  refine Gx.val rfl rfl rfl (val_move rfl rfl) ?_
  refine Gx.val rfl rfl rfl (val_lss rfl rfl rfl) ?_
  refine Gx.done ?_
  refine Gx.thenN ?_
  refine Gx.dec rfl (fun h21 => ?_) (fun h21 => ?_)
  · refine Gx.skip ?_
    refine Gx.thenN ?_
    refine Gx.seq ?_
    refine Gx.block ?_
    refine Gx.seq ?_
    obtain ⟨m, hm⟩ := get_of_lt (xs := ms1) (k := q) (by omega)
    have hms : (stM n (ms0 n) xs)[q]? = some m.c := by rw [← hms1, List.getElem?_map, hm]; rfl
    have hne := hj0.la2 q m.c (by omega) hms
    rw [sp_pos] at hne
    have hun : m.c.la.n = m0.c.la.n → m.c.la.who = m0.c.la.who → m.c.la = m0.c.la := fun h1 h2 => by
      obtain ⟨a, ha, hae⟩ := hj0.laM
      rw [← hae]
      exact hI.un m.c (List.mem_of_getElem? hms) a ha (by rw [sp_zero, hae]; exact ⟨h1, h2⟩)
    refine Gx.region ?_
    refine Gx.val rfl rfl rfl (val_move rfl rfl) ?_
    refine Gx.val rfl rfl rfl (val_move rfl rfl) ?_
    refine Gx.val rfl rfl rfl (val_ixa rfl Try.underlying35 Try.ty27 rfl rfl (j := q) (rfl) (reach_base hs10 hm)) ?_
    refine Gx.val rfl rfl rfl (Val.cast (val_fieldAddr rfl Try.underlying27 rfl Try.ty24 rfl rfl) (v' := ptr (sB av1) (sO av1 + q * 6 + 1)) rfl) ?_
    refine Gx.val rfl rfl rfl (Val.cast (val_loadA rfl Try.ty24 rfl rfl (us := [.int .i64 m.c.la.n, .int .i64 m.c.la.who, .int .i64 m.c.la.val]) rfl (cells_baseAt (i := 1) (n := 3) hs10 hm rfl)) (v' := .agg #[.int .i64 m.c.la.n, .int .i64 m.c.la.who, .int .i64 m.c.la.val]) rfl) ?_
    refine Gx.eff rfl rfl rfl (eff_alloc rfl Try.ty24 (vs := [.int .i64 0, .int .i64 0, .int .i64 0]) rfl) ?_
    rintro _ _ ⟨b22, rfl, rfl⟩
    refine Gx.eff0 rfl rfl (eff_store rfl Try.ty24 rfl rfl (us := [.int .i64 m.c.la.n, .int .i64 m.c.la.who, .int .i64 m.c.la.val]) rfl rfl rfl (k := 0) rfl (rfl) (vs' := [.int .i64 m.c.la.n, .int .i64 m.c.la.who, .int .i64 m.c.la.val]) (rfl) (l' := [Hp.rec_ b22 [.int .i64 m.c.la.n, .int .i64 m.c.la.who, .int .i64 m.c.la.val], Hp.rec_ b13 [.int .i64 m0.c.la.n, .int .i64 m0.c.la.who, .int .i64 m0.c.la.val]]) rfl) ?_
    rintro _ _ rfl
    refine Gx.done ?_
    refine Gx.thenN ?_
    refine Gx.seq ?_
    refine Gx.region ?_
    refine Gx.val rfl rfl rfl (Val.cast (val_fieldAddr rfl Try.underlying24 rfl Try.ty3 rfl rfl) (v' := ptr b22 0) rfl) ?_
    refine Gx.val rfl rfl rfl (val_load rfl Try.ty3 rfl rfl (cell_rec (k := 0) rfl rfl)) ?_
    refine Gx.val rfl rfl rfl (Val.cast (val_fieldAddr rfl Try.underlying24 rfl Try.ty3 rfl rfl) (v' := ptr b13 0) rfl) ?_
    refine Gx.val rfl rfl rfl (val_load rfl Try.ty3 rfl rfl (cell_rec (k := 1) rfl rfl)) ?_
    refine Gx.val rfl rfl rfl (val_gtr rfl rfl rfl) ?_
    refine Gx.val rfl rfl rfl (val_move rfl rfl) ?_
    refine Gx.slot (t := 141) (v := .bool false) (look_decF rfl (by omega)) ?_
    refine Gx.valg rfl rfl rfl rfl rfl (Val.cast (val_fieldAddr rfl Try.underlying24 rfl Try.ty3 rfl rfl) (v' := ptr b22 0) rfl) ?_
    refine Gx.valg rfl rfl rfl rfl rfl (val_load rfl Try.ty3 rfl rfl (cell_rec (k := 0) rfl rfl)) ?_
    refine Gx.valg rfl rfl rfl rfl rfl (Val.cast (val_fieldAddr rfl Try.underlying24 rfl Try.ty3 rfl rfl) (v' := ptr b13 0) rfl) ?_
    refine Gx.valg rfl rfl rfl rfl rfl (val_load rfl Try.ty3 rfl rfl (cell_rec (k := 1) rfl rfl)) ?_
    refine Gx.valg rfl rfl rfl rfl rfl (val_eql rfl rfl rfl) ?_
    refine Gx.valg rfl rfl rfl rfl rfl (val_move rfl rfl) ?_
    refine Gx.cases (t := 147) rfl (fun h23 => ?_) (fun h23 => ?_)
    · refine Gx.valg rfl rfl rfl rfl rfl (Val.cast (val_fieldAddr rfl Try.underlying24 rfl Try.ty3 rfl rfl) (v' := ptr b22 1) rfl) ?_
      refine Gx.valg rfl rfl rfl rfl rfl (val_load rfl Try.ty3 rfl rfl (cell_rec (k := 0) rfl rfl)) ?_
      refine Gx.valg rfl rfl rfl rfl rfl (Val.cast (val_fieldAddr rfl Try.underlying24 rfl Try.ty3 rfl rfl) (v' := ptr b13 1) rfl) ?_
      refine Gx.valg rfl rfl rfl rfl rfl (val_load rfl Try.ty3 rfl rfl (cell_rec (k := 1) rfl rfl)) ?_
      refine Gx.valg rfl rfl rfl rfl rfl (val_gtr rfl rfl rfl) ?_
      refine Gx.valg rfl rfl rfl rfl rfl (val_move rfl rfl) ?_
      refine Gx.slot (t := 153) (v := .bool false) (look_decF rfl (by omega)) ?_
      refine Gx.valg rfl rfl rfl rfl rfl (Val.cast (val_fieldAddr rfl Try.underlying24 rfl Try.ty3 rfl rfl) (v' := ptr b22 1) rfl) ?_
      refine Gx.valg rfl rfl rfl rfl rfl (val_load rfl Try.ty3 rfl rfl (cell_rec (k := 0) rfl rfl)) ?_
      refine Gx.valg rfl rfl rfl rfl rfl (Val.cast (val_fieldAddr rfl Try.underlying24 rfl Try.ty3 rfl rfl) (v' := ptr b13 1) rfl) ?_
      refine Gx.valg rfl rfl rfl rfl rfl (val_load rfl Try.ty3 rfl rfl (cell_rec (k := 1) rfl rfl)) ?_
      refine Gx.valg rfl rfl rfl rfl rfl (val_eql rfl rfl rfl) ?_
      refine Gx.valg rfl rfl rfl rfl rfl (val_move rfl rfl) ?_
      refine Gx.cases (t := 159) rfl (fun h24 => ?_) (fun h24 => ?_)
      · refine Gx.valg rfl rfl rfl rfl rfl (Val.cast (val_fieldAddr rfl Try.underlying24 rfl Try.ty2 rfl rfl) (v' := ptr b22 2) rfl) ?_
        refine Gx.valg rfl rfl rfl rfl rfl (val_load rfl Try.ty2 rfl rfl (cell_rec (k := 0) rfl rfl)) ?_
        refine Gx.valg rfl rfl rfl rfl rfl (Val.cast (val_fieldAddr rfl Try.underlying24 rfl Try.ty2 rfl rfl) (v' := ptr b13 2) rfl) ?_
        refine Gx.valg rfl rfl rfl rfl rfl (val_load rfl Try.ty2 rfl rfl (cell_rec (k := 1) rfl rfl)) ?_
        refine Gx.valg rfl rfl rfl rfl rfl (val_neq rfl rfl rfl) ?_
        refine Gx.valg rfl rfl rfl rfl rfl (val_pickT rfl rfl rfl) ?_
        refine Gx.valg rfl rfl rfl rfl rfl (val_pickF rfl rfl rfl) ?_
        refine Gx.valg rfl rfl rfl rfl rfl (val_pickT rfl rfl rfl) ?_
        refine Gx.val rfl rfl rfl (val_pickF rfl rfl rfl) ?_
        refine Gx.done ?_
        refine Gx.thenN ?_
        refine Gx.decF rfl (fun z => z (congrArg Sp.val (hun h23 h24))) ?_
        refine Gx.skip ?_
        refine Gx.blkN ?_
        refine Gx.thenN ?_
        refine Gx.region ?_
        refine Gx.val rfl rfl rfl (val_move rfl rfl) ?_
        refine Gx.val rfl rfl rfl (val_add rfl rfl rfl (r := ((q + 1 : Nat) : Int)) (w64 (by omega) (by omega))) ?_
        refine Gx.val rfl rfl rfl (val_assign rfl rfl) ?_
        refine Gx.done ?_
        refine Gx.thenN ?_
        refine Gx.drop 0 rfl ?_
        exact Gx.round (q + 1) (by first | omega | (dsimp only; omega)) (by first | omega | (dsimp only; omega)) ((.cons rfl (.cons rfl (.cons rfl (.cons rfl (.cons rfl .nil)))))) rfl
      refine Gx.skipg rfl rfl rfl rfl rfl rfl ?_
      refine Gx.skipg rfl rfl rfl rfl rfl rfl ?_
      refine Gx.skipg rfl rfl rfl rfl rfl rfl ?_
      refine Gx.skipg rfl rfl rfl rfl rfl rfl ?_
      refine Gx.skipg rfl rfl rfl rfl rfl rfl ?_
      refine Gx.valg rfl rfl rfl rfl rfl (val_pickF rfl rfl rfl) ?_
      refine Gx.valg rfl rfl rfl rfl rfl (val_pickF rfl rfl rfl) ?_
      refine Gx.valg rfl rfl rfl rfl rfl (val_pickT rfl rfl rfl) ?_
      refine Gx.val rfl rfl rfl (val_pickF rfl rfl rfl) ?_
      refine Gx.done ?_
      refine Gx.thenN ?_
      refine Gx.f rfl ?_
      refine Gx.skip ?_
      refine Gx.blkN ?_
      refine Gx.thenN ?_
      refine Gx.region ?_
      refine Gx.val rfl rfl rfl (val_move rfl rfl) ?_
      refine Gx.val rfl rfl rfl (val_add rfl rfl rfl (r := ((q + 1 : Nat) : Int)) (w64 (by omega) (by omega))) ?_
      refine Gx.val rfl rfl rfl (val_assign rfl rfl) ?_
      refine Gx.done ?_
      refine Gx.thenN ?_
      refine Gx.drop 0 rfl ?_
      exact Gx.round (q + 1) (by first | omega | (dsimp only; omega)) (by first | omega | (dsimp only; omega)) ((.cons rfl (.cons rfl (.cons rfl (.cons rfl (.cons rfl .nil)))))) rfl
    refine Gx.skipg rfl rfl rfl rfl rfl rfl ?_
    refine Gx.skipg rfl rfl rfl rfl rfl rfl ?_
    refine Gx.skipg rfl rfl rfl rfl rfl rfl ?_
    refine Gx.skipg rfl rfl rfl rfl rfl rfl ?_
    refine Gx.skipg rfl rfl rfl rfl rfl rfl ?_
    refine Gx.skipg rfl rfl rfl rfl rfl rfl ?_
    refine Gx.skipu rfl rfl rfl rfl rfl ?_
    refine Gx.skipu rfl rfl rfl rfl rfl ?_
    refine Gx.skipu rfl rfl rfl rfl rfl ?_
    refine Gx.skipu rfl rfl rfl rfl rfl ?_
    refine Gx.skipu rfl rfl rfl rfl rfl ?_
    refine Gx.skipu rfl rfl rfl rfl rfl ?_
    refine Gx.skipu rfl rfl rfl rfl rfl ?_
    refine Gx.skipu rfl rfl rfl rfl rfl ?_
    refine Gx.skipu rfl rfl rfl rfl rfl ?_
    refine Gx.skipu rfl rfl rfl rfl rfl ?_
    refine Gx.skipu rfl rfl rfl rfl rfl ?_
    refine Gx.skipu rfl rfl rfl rfl rfl ?_
    refine Gx.skipg rfl rfl rfl rfl rfl rfl ?_
    refine Gx.valg rfl rfl rfl rfl rfl (val_pickF rfl rfl rfl) ?_
    refine Gx.val rfl rfl rfl (val_pickF rfl rfl rfl) ?_
    refine Gx.done ?_
    refine Gx.thenN ?_
    refine Gx.f rfl ?_
    refine Gx.skip ?_
    refine Gx.blkN ?_
    refine Gx.thenN ?_
    refine Gx.region ?_
    refine Gx.val rfl rfl rfl (val_move rfl rfl) ?_
    refine Gx.val rfl rfl rfl (val_add rfl rfl rfl (r := ((q + 1 : Nat) : Int)) (w64 (by omega) (by omega))) ?_
    refine Gx.val rfl rfl rfl (val_assign rfl rfl) ?_
    refine Gx.done ?_
    refine Gx.thenN ?_
    refine Gx.drop 0 rfl ?_
    exact Gx.round (q + 1) (by first | omega | (dsimp only; omega)) (by first | omega | (dsimp only; omega)) ((.cons rfl (.cons rfl (.cons rfl (.cons rfl (.cons rfl .nil)))))) rfl
  refine Gx.exit ?_
  refine Gx.thenE ?_
  refine Gx.thenE ?_
  refine Gx.blkE ?_
  refine Gx.thenN ?_
  refine Gx.seq ?_
  refine Gx.region ?_
  refine Gx.val rfl rfl rfl (val_move rfl rfl) ?_
  refine Gx.val rfl rfl rfl (val_assign rfl rfl) ?_
  refine Gx.done ?_
  refine Gx.thenN ?_
  refine Gx.ret ?_
  refine Gx.ret1B hW8 Try.results6 rfl ?_
  exact congrArg Value.bool hfin

theorem last_any {W : World} {z : Int} {sv : Value} {xs : List Sy} (hs : SlS FY 5 W sv xs) :
    Calls Try.prog 6 #[.int .i64 z, sv] W fun e w' => e = .returned (.bool true) ∧ Below W.heap.size W w' := by
  by_cases hbad : z < 1 ∨ 4 < z ∨ 120 < (xs.length : Int) + 2 * z * z ∨ 60 < (xs.length : Int)
  · exact last_no hs hbad
  · obtain ⟨n, rfl⟩ : ∃ n : Nat, z = (n : Int) := ⟨z.toNat, by omega⟩
    rw [sq_nat] at hbad
    exact last_yes hs (by omega) (by omega) (by omega) (by omega)
end Go.Proofs.Ytfpkfbffpkjgbaa
