/- Behind all merges the counts are what each one has counted in all. The walk. No condition. -/
import Derived.Test.YtfpkfbffpkjgbaaM3
import Derived.Test.YtfpkfbffpkjgbaaB1
namespace Go.Proofs.Ytfpkfbffpkjgbaa
open Go.RowKit
set_option linter.unusedVariables false
set_option linter.unusedSimpArgs false
set_option maxRecDepth 100000

theorem sumS_no {l : List Int} {x : Sy} {e : Int} (h : ¬ (x.kind = 1 ∧ e = 0)) : sumS l x e = l := if_neg h
theorem sumS_yes {l : List Int} {x : Sy} {j : Nat} {v : Int} (h1 : x.kind = 1) (hj : x.who = (j : Int)) (hv : l[j]? = some v) : sumS l x 0 = l.set j (v + x.n) := by
  unfold sumS
  rw [if_pos ⟨h1, rfl⟩, hj, Int.toNat_natCast, show l.getD j 0 = v by rw [List.getD_eq_getElem?_getD, hv]; rfl]
theorem counts_no {W : World} {z : Int} {sv : Value} {xs : List Sy} (hs : SlS FY 5 W sv xs) (hbad : z < 1 ∨ 4 < z ∨ 120 < (xs.length : Int) + 2 * z * z ∨ 60 < (xs.length : Int)) :
    Calls Try.prog 5 #[.int .i64 z, sv] W fun e w' => e = .returned (.bool true) ∧ Below W.heap.size W w' := by
  have hm9 := sls_bd hs
  refine calls_pure (Gx.enter (l := []) Try.func5 rfl Try.ntmps5 rfl (Sat.start W) ?_)
  refine Gx.know (m' := [(0, .int .i64 z), (1, sv)]) (.cons rfl (.cons rfl .nil)) ?_
  refine Gx.seq ?_
  refine Gx.region ?_
  refine Gx.val rfl rfl rfl (val_assign rfl rfl) ?_
  refine Gx.done ?_
  refine Gx.thenN ?_
  refine Gx.seq ?_
  refine Gx.seq ?_
  refine Gx.region ?_
  refine Gx.val rfl rfl rfl (val_move rfl rfl) ?_
  refine Gx.val rfl rfl rfl (val_lss rfl rfl rfl) ?_
  refine Gx.val rfl rfl rfl (val_move rfl rfl) ?_
  refine Gx.cases (t := 13) rfl (fun h1 => ?_) (fun h1 => ?_)
  · refine Gx.skipg rfl rfl rfl rfl rfl rfl ?_
    refine Gx.skipg rfl rfl rfl rfl rfl rfl ?_
    refine Gx.val rfl rfl rfl (val_pickT rfl rfl rfl) ?_
    refine Gx.val rfl rfl rfl (val_move rfl rfl) ?_
    refine Gx.skipg rfl rfl rfl rfl rfl rfl ?_
    refine Gx.skipg rfl rfl rfl rfl rfl rfl ?_
    refine Gx.skipg rfl rfl rfl rfl rfl rfl ?_
    refine Gx.skipg rfl rfl rfl rfl rfl rfl ?_
    refine Gx.skipg rfl rfl rfl rfl rfl rfl ?_
    refine Gx.skipg rfl rfl rfl rfl rfl rfl ?_
    refine Gx.skipg rfl rfl rfl rfl rfl rfl ?_
    refine Gx.skipg rfl rfl rfl rfl rfl rfl ?_
    refine Gx.val rfl rfl rfl (val_pickT rfl rfl rfl) ?_
    refine Gx.val rfl rfl rfl (val_move rfl rfl) ?_
    refine Gx.skipg rfl rfl rfl rfl rfl rfl ?_
    refine Gx.skipg rfl rfl rfl rfl rfl rfl ?_
    refine Gx.skipg rfl rfl rfl rfl rfl rfl ?_
    refine Gx.val rfl rfl rfl (val_pickT rfl rfl rfl) ?_
    refine Gx.done ?_
    refine Gx.thenN ?_
    refine Gx.t rfl ?_
    refine Gx.seq ?_
    refine Gx.region ?_
    refine Gx.val rfl rfl rfl (val_assign rfl rfl) ?_
    refine Gx.done ?_
    refine Gx.thenN ?_
    refine Gx.ret ?_
    refine Gx.thenR ?_
    refine Gx.ret1 Try.results5 rfl ?_
    rfl
  refine Gx.valg rfl rfl rfl rfl rfl (val_move rfl rfl) ?_
  refine Gx.valg rfl rfl rfl rfl rfl (val_gtr rfl rfl rfl) ?_
  refine Gx.val rfl rfl rfl (val_pickF rfl rfl rfl) ?_
  refine Gx.val rfl rfl rfl (val_move rfl rfl) ?_
  refine Gx.cases (t := 17) rfl (fun h2 => ?_) (fun h2 => ?_)
  · refine Gx.skipg rfl rfl rfl rfl rfl rfl ?_
    refine Gx.skipg rfl rfl rfl rfl rfl rfl ?_
    refine Gx.skipg rfl rfl rfl rfl rfl rfl ?_
    refine Gx.skipg rfl rfl rfl rfl rfl rfl ?_
    refine Gx.skipg rfl rfl rfl rfl rfl rfl ?_
    refine Gx.skipg rfl rfl rfl rfl rfl rfl ?_
    refine Gx.skipg rfl rfl rfl rfl rfl rfl ?_
    refine Gx.skipg rfl rfl rfl rfl rfl rfl ?_
    refine Gx.val rfl rfl rfl (val_pickT rfl rfl rfl) ?_
    refine Gx.val rfl rfl rfl (val_move rfl rfl) ?_
    refine Gx.skipg rfl rfl rfl rfl rfl rfl ?_
    refine Gx.skipg rfl rfl rfl rfl rfl rfl ?_
    refine Gx.skipg rfl rfl rfl rfl rfl rfl ?_
    refine Gx.val rfl rfl rfl (val_pickT rfl rfl rfl) ?_
    refine Gx.done ?_
    refine Gx.thenN ?_
    refine Gx.t rfl ?_
    refine Gx.seq ?_
    refine Gx.region ?_
    refine Gx.val rfl rfl rfl (val_assign rfl rfl) ?_
    refine Gx.done ?_
    refine Gx.thenN ?_
    refine Gx.ret ?_
    refine Gx.thenR ?_
    refine Gx.ret1 Try.results5 rfl ?_
    rfl
  refine Gx.valg rfl rfl rfl rfl rfl (val_move rfl rfl) ?_
  refine Gx.valg rfl rfl rfl rfl rfl (val_len rfl Try.underlying34 rfl (len_base hs)) ?_
  refine Gx.valg rfl rfl rfl rfl rfl (val_move rfl rfl) ?_
  refine Gx.valg rfl rfl rfl rfl rfl (val_mul rfl rfl rfl (r := (2 * z)) (w64 rfl (by omega))) ?_
  refine Gx.valg rfl rfl rfl rfl rfl (val_move rfl rfl) ?_
  refine Gx.valg rfl rfl rfl rfl rfl (val_mul rfl rfl rfl (r := (2 * z * z)) (w64 rfl (by have := sq_bd (z := z) (by omega) (by omega); omega))) ?_
  refine Gx.valg rfl rfl rfl rfl rfl (val_add rfl rfl rfl (r := (xs.length + 2 * z * z)) (w64 (by omega) (by have := sq_bd (z := z) (by omega) (by omega); omega))) ?_
  refine Gx.valg rfl rfl rfl rfl rfl (val_gtr rfl rfl rfl) ?_
  refine Gx.val rfl rfl rfl (val_pickF rfl rfl rfl) ?_
  refine Gx.val rfl rfl rfl (val_move rfl rfl) ?_
  refine Gx.cases (t := 27) rfl (fun h3 => ?_) (fun h3 => ?_)
  · refine Gx.skipg rfl rfl rfl rfl rfl rfl ?_
    refine Gx.skipg rfl rfl rfl rfl rfl rfl ?_
    refine Gx.skipg rfl rfl rfl rfl rfl rfl ?_
    refine Gx.val rfl rfl rfl (val_pickT rfl rfl rfl) ?_
    refine Gx.done ?_
    refine Gx.thenN ?_
    refine Gx.t rfl ?_
    refine Gx.seq ?_
    refine Gx.region ?_
    refine Gx.val rfl rfl rfl (val_assign rfl rfl) ?_
    refine Gx.done ?_
    refine Gx.thenN ?_
    refine Gx.ret ?_
    refine Gx.thenR ?_
    refine Gx.ret1 Try.results5 rfl ?_
    rfl
  refine Gx.valg rfl rfl rfl rfl rfl (val_move rfl rfl) ?_
  refine Gx.valg rfl rfl rfl rfl rfl (val_len rfl Try.underlying34 rfl (len_base hs)) ?_
  refine Gx.valg rfl rfl rfl rfl rfl (val_gtr rfl rfl rfl) ?_
  refine Gx.val rfl rfl rfl (val_pickF rfl rfl rfl) ?_
  refine Gx.done ?_
  refine Gx.thenN ?_
  refine Gx.dec rfl (fun h4 => ?_) (fun h4 => ?_)
  · refine Gx.seq ?_
    refine Gx.region ?_
    refine Gx.val rfl rfl rfl (val_assign rfl rfl) ?_
    refine Gx.done ?_
    refine Gx.thenN ?_
    refine Gx.ret ?_
    refine Gx.thenR ?_
    refine Gx.ret1 Try.results5 rfl ?_
    rfl
  exfalso; omega

theorem counts_yes {W : World} {n : Nat} {sv : Value} {xs : List Sy} (hs : SlS FY 5 W sv xs) (h1n : 1 ≤ n) (h4n : n ≤ 4) (hl1 : xs.length + 2 * n * n ≤ 120) (hl2 : xs.length ≤ 60) :
    Calls Try.prog 5 #[.int .i64 ((n : Nat) : Int), sv] W fun e w' => e = .returned (.bool true) ∧ Below W.heap.size W w' := by
  have hm9 := sls_bd hs
  have hnn : 2 * n * n ≤ 32 := by
    have q := Nat.mul_le_mul h4n h4n
    rw [Nat.mul_assoc]; omega
  have htl : (tms n 2).length ≤ 2 * n * n := by rw [Nat.mul_assoc]; exact tms_len n 2
  have hLl : (xs ++ tms n 2).length = xs.length + (tms n 2).length := List.length_append
  obtain ⟨G, hI⟩ := InvM.run xs (InvM.start h1n) (Int.le_refl 0)
  have hA : 0 + adds xs ≤ 60 := by have := adds_len xs; omega
  obtain ⟨hsy1, hsy2⟩ := hI.sync hA
  refine calls_pure (Gx.enter (l := []) Try.func5 rfl Try.ntmps5 rfl (Sat.start W) ?_)
  refine Gx.know (m' := [(0, .int .i64 ((n : Nat) : Int)), (1, sv)]) (.cons rfl (.cons rfl .nil)) ?_
  refine Gx.seq ?_
  refine Gx.region ?_
  refine Gx.val rfl rfl rfl (val_assign rfl rfl) ?_
  refine Gx.done ?_
  refine Gx.thenN ?_
  refine Gx.seq ?_
  refine Gx.seq ?_
  refine Gx.region ?_
  refine Gx.val rfl rfl rfl (val_move rfl rfl) ?_
  refine Gx.val rfl rfl rfl (val_lss rfl rfl rfl) ?_
  refine Gx.val rfl rfl rfl (val_move rfl rfl) ?_
  refine Gx.slot (t := 13) (v := .bool false) (look_decF rfl (by omega)) ?_
  refine Gx.valg rfl rfl rfl rfl rfl (val_move rfl rfl) ?_
  refine Gx.valg rfl rfl rfl rfl rfl (val_gtr rfl rfl rfl) ?_
  refine Gx.val rfl rfl rfl (val_pickF rfl rfl rfl) ?_
  refine Gx.val rfl rfl rfl (val_move rfl rfl) ?_
  refine Gx.slot (t := 17) (v := .bool false) (look_decF rfl (by omega)) ?_
  refine Gx.valg rfl rfl rfl rfl rfl (val_move rfl rfl) ?_
  refine Gx.valg rfl rfl rfl rfl rfl (val_len rfl Try.underlying34 rfl (len_base hs)) ?_
  refine Gx.valg rfl rfl rfl rfl rfl (val_move rfl rfl) ?_
  refine Gx.valg rfl rfl rfl rfl rfl (val_mul rfl rfl rfl (r := ((2 * n : Nat) : Int)) (w64 (by omega) (by omega))) ?_
  refine Gx.valg rfl rfl rfl rfl rfl (val_move rfl rfl) ?_
  refine Gx.valg rfl rfl rfl rfl rfl (val_mul rfl rfl rfl (r := ((2 * n * n : Nat) : Int)) (w64 (Int.natCast_mul _ _).symm (by omega))) ?_
  refine Gx.valg rfl rfl rfl rfl rfl (val_add rfl rfl rfl (r := ((xs.length + 2 * n * n : Nat) : Int)) (w64 (by omega) (by omega))) ?_
  refine Gx.valg rfl rfl rfl rfl rfl (val_gtr rfl rfl rfl) ?_
  refine Gx.val rfl rfl rfl (val_pickF rfl rfl rfl) ?_
  refine Gx.val rfl rfl rfl (val_move rfl rfl) ?_
  refine Gx.slot (t := 27) (v := .bool false) (look_decF rfl (by omega)) ?_
  refine Gx.valg rfl rfl rfl rfl rfl (val_move rfl rfl) ?_
  refine Gx.valg rfl rfl rfl rfl rfl (val_len rfl Try.underlying34 rfl (len_base hs)) ?_
  refine Gx.valg rfl rfl rfl rfl rfl (val_gtr rfl rfl rfl) ?_
  refine Gx.val rfl rfl rfl (val_pickF rfl rfl rfl) ?_
  refine Gx.done ?_
  refine Gx.thenN ?_
  refine Gx.decF rfl (by omega) ?_
  refine Gx.skip ?_
  refine Gx.thenN ?_
  refine Gx.seq ?_
  refine Gx.region ?_
  refine Gx.val rfl rfl rfl (val_move rfl rfl) ?_
  refine Gx.val rfl rfl rfl (val_move rfl rfl) ?_
  refine Gx.val rfl rfl rfl (val_move rfl rfl) ?_
  refine Gx.eff rfl rfl rfl (eff_callN (vs := [.int .i64 ((n : Nat) : Int), sv, .int .i64 2]) rfl Try.fn13 rfl (fun w H => synced_any (n := n) (hs.below H.below) (by omega) (by omega))) ?_
  rintro sy1 _ ⟨_, ⟨hisy1, rfl⟩, rfl⟩
  refine Gx.norm (l' := [Hp.own FY 5 sy1 (xs ++ tms n 2)]) rfl ?_
  refine Gx.callB rfl rfl rfl (vs := [.int .i64 ((n : Nat) : Int), sy1]) rfl Try.fn12 rfl (R := (fun v w' => ∃ (av cv : Value) (ms : List Cm), v = .tuple #[av, cv, .int .i64 0] ∧ ms.map Cm.c = stM n (ms0 n) (xs ++ tms n 2) ∧ SlS FC 6 w' av ms ∧ SlS FE 1 w' cv (codesM n (ms0 n) (xs ++ tms n 2)) ∧ ∀ m ∈ ms, RowsS w' m)) (fun w H => play_ok (n := n) (by omega) (by omega) ((H.at_ (k := 0) rfl).sls (by omega)) (by omega)) ?_
  rintro _ W2 ⟨av1, cv1, ms1, rfl, hms1, hsa1, hsc1, hr1⟩ H3
  have hW4 := H3.below
  have hs5 := hs.below H3.below
  have hs6 := (H3.at_ (k := 0) rfl).sls (by first | omega | (simp; done) | (simp; omega))
  refine Gx.val rfl rfl rfl (val_move rfl rfl) ?_
  refine Gx.val rfl rfl rfl (val_extract rfl rfl rfl) ?_
  refine Gx.val rfl rfl rfl (val_extract rfl rfl rfl) ?_
  refine Gx.val rfl rfl rfl (val_extract rfl rfl rfl) ?_
  refine Gx.val rfl rfl rfl (val_assign rfl rfl) ?_
  refine Gx.val rfl rfl rfl (val_assign rfl rfl) ?_
  refine Gx.val rfl rfl rfl (val_assign rfl rfl) ?_
  refine Gx.done ?_
  refine Gx.thenN ?_
  refine Gx.seq ?_
  refine Gx.seq ?_
  have hst1 := hms1
  rw [stM_app] at hst1
  have hml1 : ms1.length = n := by rw [← hsy1, ← hst1, List.length_map]
  have hcl1 : (codesM n (ms0 n) (xs ++ tms n 2)).length = xs.length + (tms n 2).length := by rw [codesM_len, hLl]
  have hJ1 : ∀ m ∈ ms1, IsJ n (stM n (ms0 n) xs) (fun i => i < n) m.c := fun m hm => hsy2 m.c (by rw [← hst1]; exact List.mem_map_of_mem hm)
  refine Gx.region ?_
  refine Gx.val rfl rfl rfl (val_move rfl rfl) ?_
  refine Gx.val rfl rfl rfl (Val.cast (val_neq rfl rfl rfl) (v' := .bool false) rfl) ?_
  refine Gx.val rfl rfl rfl (val_move rfl rfl) ?_
  refine Gx.valg rfl rfl rfl rfl rfl (val_move rfl rfl) ?_
  refine Gx.valg rfl rfl rfl rfl rfl (val_len rfl Try.underlying35 rfl (len_base hsa1)) ?_
  refine Gx.valg rfl rfl rfl rfl rfl (val_move rfl rfl) ?_
  refine Gx.valg rfl rfl rfl rfl rfl (val_neq rfl rfl rfl) ?_
  refine Gx.val rfl rfl rfl (val_pickF rfl rfl rfl) ?_
  refine Gx.val rfl rfl rfl (val_move rfl rfl) ?_
  refine Gx.slot (t := 49) (v := .bool false) (look_decF rfl (by omega)) ?_
  refine Gx.valg rfl rfl rfl rfl rfl (val_move rfl rfl) ?_
  refine Gx.valg rfl rfl rfl rfl rfl (val_len rfl Try.underlying36 rfl (len_base hsc1)) ?_
  refine Gx.valg rfl rfl rfl rfl rfl (val_move rfl rfl) ?_
  refine Gx.valg rfl rfl rfl rfl rfl (val_len rfl Try.underlying34 rfl (len_base hs5)) ?_
  refine Gx.valg rfl rfl rfl rfl rfl (val_lss rfl rfl rfl) ?_
  refine Gx.val rfl rfl rfl (val_pickF rfl rfl rfl) ?_
  refine Gx.done ?_
  refine Gx.thenN ?_
  refine Gx.decF rfl (by omega) ?_
  refine Gx.skip ?_
  refine Gx.thenN ?_
  refine Gx.seq ?_
  refine Gx.region ?_
  refine Gx.val rfl rfl rfl (val_move rfl rfl) ?_
  refine Gx.eff rfl rfl rfl (eff_makeSlice (n := n) (f := FI) rfl Try.underlying22 Try.ty2 rfl rfl (rfl) (rfl) FI_len (0 : Int) rfl (by omega) (by omega)) ?_
  rintro v7 _ ⟨hiv7, rfl⟩
  refine Gx.val rfl rfl rfl (val_assign rfl rfl) ?_
  refine Gx.done ?_
  refine Gx.thenN ?_
  refine Gx.seq ?_
  refine Gx.seq ?_
  refine Gx.region ?_
  refine Gx.val rfl rfl rfl (val_move rfl rfl) ?_
  refine Gx.val rfl rfl rfl (val_len rfl Try.underlying34 rfl (len_base hs5)) ?_
  refine Gx.val rfl rfl rfl (val_move rfl rfl) ?_
  refine Gx.done ?_
  refine Gx.thenN ?_
  refine Gx.block ?_
  refine Gx.loop (ι := Nat × (List Int)) (fun ξ => (ξ.1 ≤ xs.length) ∧ (CntOk n (stM n (ms0 n) (xs.take ξ.1)) ξ.2)) (fun ξ => [(0, .int .i64 ((n : Nat) : Int)), (1, sv), (5, av1), (6, cv1), (8, v7), (58, sv), (59, .int .i64 ((xs.length : Nat) : Int)), (60, .int .i64 ((ξ.1 : Nat) : Int))]) (fun ξ => [Hp.own FI 1 v7 ξ.2]) (fun ξ => xs.length - ξ.1) (0, (List.replicate n (0 : Int))) ⟨by first | omega | (dsimp only; omega), CntOk.start⟩ ((.cons rfl (.cons rfl (.cons rfl (.cons rfl (.cons rfl (.cons rfl (.cons rfl (.cons rfl .nil))))))))) rfl ?_
  rintro ⟨i, l⟩ ⟨hi, hcnt⟩
  dsimp only at hi hcnt
  refine Gx.know (m' := [(0, .int .i64 ((n : Nat) : Int)), (1, sv), (5, av1), (6, cv1), (8, v7), (58, sv), (59, .int .i64 ((xs.length : Nat) : Int)), (60, .int .i64 ((i : Nat) : Int))]) (.cons rfl (.cons rfl (.cons rfl (.cons rfl (.cons rfl (.cons rfl (.cons rfl (.cons rfl .nil)))))))) (Gx.norm (l' := [Hp.own FI 1 v7 l]) rfl ?_)
  refine Gx.seq ?_
  refine Gx.region ?_
  refine Gx.val rfl rfl rfl (val_lss rfl rfl rfl) ?_
  refine Gx.done ?_
  refine Gx.thenN ?_
  refine Gx.seq ?_
  refine Gx.dec rfl (fun h8 => ?_) (fun h8 => ?_)
  · refine Gx.skip ?_
    refine Gx.thenN ?_
    refine Gx.seq ?_
    refine Gx.block ?_
    refine Gx.seq ?_
    obtain ⟨x, hx⟩ := get_of_lt (xs := xs) (k := i) (by omega)
    obtain ⟨Gi, hIi⟩ := InvM.run (xs.take i) (InvM.start h1n) (Int.le_refl 0)
    have hcode : (codesM n (ms0 n) (xs ++ tms n 2))[i]? = some (stepM n (stM n (ms0 n) (xs.take i)) x).1 := by
      have h9 := codes_at (n := n) (s := ms0 n) (show (xs ++ tms n 2)[i]? = some x from by rw [List.getElem?_append_left (by omega)]; exact hx)
      rwa [List.take_append_of_le_length (by omega)] at h9
    obtain ⟨e, he⟩ : ∃ e, e = (stepM n (stM n (ms0 n) (xs.take i)) x).1 := ⟨_, rfl⟩
    rw [← he] at hcode
    have hll := hcnt.len
    refine Gx.region ?_
    refine Gx.val rfl rfl rfl (val_move rfl rfl) ?_
    refine Gx.val rfl rfl rfl (val_ixa rfl Try.underlying34 Try.ty42 rfl rfl (j := i) (rfl) (reach_base hs5 hx)) ?_
    refine Gx.val rfl rfl rfl (Val.cast (val_loadA rfl Try.ty42 rfl rfl rfl (cells_base hs5 hx)) (v' := .agg #[.int .i64 x.kind, .int .i64 x.who, .int .i64 x.frm, .int .i64 x.item, .int .i64 x.n]) rfl) ?_
    refine Gx.eff rfl rfl rfl (eff_alloc rfl Try.ty42 (vs := [.int .i64 0, .int .i64 0, .int .i64 0, .int .i64 0, .int .i64 0]) rfl) ?_
    rintro _ _ ⟨b9, rfl, rfl⟩
    refine Gx.val rfl rfl rfl (val_assign rfl rfl) ?_
    refine Gx.eff0 rfl rfl (eff_store rfl Try.ty42 rfl rfl (us := [.int .i64 x.kind, .int .i64 x.who, .int .i64 x.frm, .int .i64 x.item, .int .i64 x.n]) rfl rfl rfl (k := 0) rfl (rfl) (vs' := [.int .i64 x.kind, .int .i64 x.who, .int .i64 x.frm, .int .i64 x.item, .int .i64 x.n]) (rfl) (l' := [Hp.rec_ b9 [.int .i64 x.kind, .int .i64 x.who, .int .i64 x.frm, .int .i64 x.item, .int .i64 x.n], Hp.own FI 1 v7 l]) rfl) ?_
    rintro _ _ rfl
    refine Gx.done ?_
    refine Gx.thenN ?_
    refine Gx.seq ?_
    refine Gx.region ?_
    refine Gx.val rfl rfl rfl (Val.cast (val_fieldAddr rfl Try.underlying42 rfl Try.ty3 rfl rfl) (v' := ptr b9 0) rfl) ?_
    refine Gx.val rfl rfl rfl (val_load rfl Try.ty3 rfl rfl (cell_rec (k := 0) rfl rfl)) ?_
    refine Gx.val rfl rfl rfl (val_eql rfl rfl rfl) ?_
    refine Gx.val rfl rfl rfl (val_move rfl rfl) ?_
    refine Gx.cases (t := 68) rfl (fun h10 => ?_) (fun h10 => ?_)
    · refine Gx.valg rfl rfl rfl rfl rfl (val_move rfl rfl) ?_
      refine Gx.valg rfl rfl rfl rfl rfl (val_move rfl rfl) ?_
      refine Gx.valg rfl rfl rfl rfl rfl (val_ixa rfl Try.underlying36 Try.ty28 rfl rfl (j := i) (rfl) (reach_base hsc1 hcode)) ?_
      refine Gx.valg rfl rfl rfl rfl rfl (val_load rfl Try.ty28 rfl rfl (cell_base (i := 0) hsc1 hcode rfl)) ?_
      refine Gx.valg rfl rfl rfl rfl rfl (val_eql rfl rfl rfl) ?_
      refine Gx.val rfl rfl rfl (val_pickT rfl rfl rfl) ?_
      refine Gx.done ?_
      refine Gx.thenN ?_
      refine Gx.dec rfl (fun h11 => ?_) (fun h11 => ?_)
      · obtain ⟨hw, j, c, hj, hcj, _, _⟩ := code_zero (he.symm.trans h11)
        obtain ⟨wf1, wf2, wf3, wf4, wf5, wf6⟩ := wrong_facts hw
        have wf4 := wf4 h10
        obtain ⟨v0, hv0⟩ := get_of_lt (xs := l) (k := j) (by omega)
        have hvb : 0 ≤ v0 ∧ v0 ≤ 1099511627776 := by
          have q1 := hcnt.at_ j (by omega)
          rw [ownC_at hcj, show l.getD j 0 = v0 by rw [List.getD_eq_getElem?_getD, hv0]; rfl] at q1
          have q2 := hIi.bd.all c (List.mem_of_getElem? hcj)
          have q3 : j < c.cn.length := by rw [q2.cn]; omega
          rw [q1]
          refine q2.cv _ ?_
          unfold ct
          rw [List.getD_eq_getElem?_getD, List.getElem?_eq_getElem q3]
          exact List.getElem_mem q3
        refine Gx.regionO (fun j => false) 12 [0, 1, 2, 3, 4, 5, 6, 7, 8, 9, 10, 11] (fun _ => [Hp.rec_ b9 [.int .i64 x.kind, .int .i64 x.who, .int .i64 x.frm, .int .i64 x.item, .int .i64 x.n], Hp.own FI 1 v7 l]) Try.mixed (by kernel_rfl) rfl ?_
        refine Gw.val rfl rfl rfl rfl rfl (fun us => val_move rfl rfl) ?_
        refine Gw.val rfl rfl rfl rfl rfl (fun us => Val.cast (val_fieldAddr rfl Try.underlying42 rfl Try.ty3 rfl rfl) (v' := ptr b9 1) rfl) ?_
        refine Gw.val0 rfl rfl rfl (by kernel_rfl) rfl rfl (val_load rfl Try.ty3 rfl rfl (cell_rec (k := 0) rfl rfl)) ?_
        refine Gw.val rfl rfl rfl rfl rfl (fun us => val_move rfl rfl) ?_
        refine Gw.val rfl rfl rfl rfl rfl (fun us => Val.cast (val_fieldAddr rfl Try.underlying42 rfl Try.ty3 rfl rfl) (v' := ptr b9 1) rfl) ?_
        refine Gw.val0 rfl rfl rfl (by kernel_rfl) rfl rfl (val_load rfl Try.ty3 rfl rfl (cell_rec (k := 0) rfl rfl)) ?_
        refine Gw.val0 rfl rfl rfl (by kernel_rfl) rfl rfl (val_ixa rfl Try.underlying22 Try.ty2 rfl rfl (j := j) (by omega) (reach_own (k := 1) rfl hv0)) ?_
        refine Gw.val0 rfl rfl rfl (by kernel_rfl) rfl rfl (val_load rfl Try.ty2 rfl rfl (cell_own (i := 0) (k := 1) rfl hv0 rfl)) ?_
        refine Gw.val rfl rfl rfl rfl rfl (fun us => Val.cast (val_fieldAddr rfl Try.underlying42 rfl Try.ty2 rfl rfl) (v' := ptr b9 4) rfl) ?_
        refine Gw.val0 rfl rfl rfl (by kernel_rfl) rfl rfl (val_load rfl Try.ty2 rfl rfl (cell_rec (k := 0) rfl rfl)) ?_
        refine Gw.val rfl rfl rfl rfl rfl (fun us => val_add rfl rfl rfl (r := (v0 + x.n)) (w64 rfl (by omega))) ?_
        refine Gw.val0 rfl rfl rfl (by kernel_rfl) rfl rfl (val_ixa rfl Try.underlying22 Try.ty2 rfl rfl (j := j) (by omega) (reach_own (k := 1) rfl hv0)) ?_
        refine Gw.done ?_
        refine Gx.norm (l' := [Hp.rec_ b9 [.int .i64 x.kind, .int .i64 x.who, .int .i64 x.frm, .int .i64 x.item, .int .i64 x.n], Hp.own FI 1 v7 l]) rfl ?_
        refine Gx.eff0 rfl rfl (eff_storeElA (v0 + x.n) rfl Try.ty2 rfl rfl rfl FI_one (k := 1) rfl FI_len hv0 (l' := [Hp.rec_ b9 [.int .i64 x.kind, .int .i64 x.who, .int .i64 x.frm, .int .i64 x.item, .int .i64 x.n], Hp.own FI 1 v7 (l.set j (v0 + x.n))]) rfl) ?_
        rintro _ _ rfl
        refine Gx.done ?_
        refine Gx.blkN ?_
        refine Gx.thenN ?_
        refine Gx.region ?_
        refine Gx.val rfl rfl rfl (val_add rfl rfl rfl (r := ((i + 1 : Nat) : Int)) (w64 (by omega) (by omega))) ?_
        refine Gx.val rfl rfl rfl (val_move rfl rfl) ?_
        refine Gx.done ?_
        refine Gx.thenN ?_
        refine Gx.drop 0 rfl ?_
        exact Gx.round (i + 1, l.set j (v0 + x.n)) ⟨by first | omega | (dsimp only; omega), by
          rw [stM_snoc hx]
          have h9 := CntOk.step hIi hcnt x
          rw [← he] at h9
          rw [h11, sumS_yes h10 hj hv0] at h9
          exact h9⟩ (by first | omega | (dsimp only; omega)) ((.cons rfl (.cons rfl (.cons rfl (.cons rfl (.cons rfl (.cons rfl (.cons rfl (.cons rfl .nil))))))))) rfl
      refine Gx.skip ?_
      refine Gx.blkN ?_
      refine Gx.thenN ?_
      refine Gx.region ?_
      refine Gx.val rfl rfl rfl (val_add rfl rfl rfl (r := ((i + 1 : Nat) : Int)) (w64 (by omega) (by omega))) ?_
      refine Gx.val rfl rfl rfl (val_move rfl rfl) ?_
      refine Gx.done ?_
      refine Gx.thenN ?_
      refine Gx.drop 0 rfl ?_
      exact Gx.round (i + 1, l) ⟨by first | omega | (dsimp only; omega), by
        rw [stM_snoc hx]
        have h9 := CntOk.step hIi hcnt x
        rw [← he] at h9
        rw [sumS_no (fun q => h11 q.2)] at h9
        exact h9⟩ (by first | omega | (dsimp only; omega)) ((.cons rfl (.cons rfl (.cons rfl (.cons rfl (.cons rfl (.cons rfl (.cons rfl (.cons rfl .nil))))))))) rfl
    refine Gx.skipg rfl rfl rfl rfl rfl rfl ?_
    refine Gx.skipg rfl rfl rfl rfl rfl rfl ?_
    refine Gx.skipg rfl rfl rfl rfl rfl rfl ?_
    refine Gx.skipg rfl rfl rfl rfl rfl rfl ?_
    refine Gx.skipg rfl rfl rfl rfl rfl rfl ?_
    refine Gx.val rfl rfl rfl (val_pickF rfl rfl rfl) ?_
    refine Gx.done ?_
    refine Gx.thenN ?_
    refine Gx.f rfl ?_
    refine Gx.skip ?_
    refine Gx.blkN ?_
    refine Gx.thenN ?_
    refine Gx.region ?_
    refine Gx.val rfl rfl rfl (val_add rfl rfl rfl (r := ((i + 1 : Nat) : Int)) (w64 (by omega) (by omega))) ?_
    refine Gx.val rfl rfl rfl (val_move rfl rfl) ?_
    refine Gx.done ?_
    refine Gx.thenN ?_
    refine Gx.drop 0 rfl ?_
    exact Gx.round (i + 1, l) ⟨by first | omega | (dsimp only; omega), by
      rw [stM_snoc hx]
      have h9 := CntOk.step hIi hcnt x
      rw [← he] at h9
      rw [sumS_no (fun q => h10 q.1)] at h9
      exact h9⟩ (by first | omega | (dsimp only; omega)) ((.cons rfl (.cons rfl (.cons rfl (.cons rfl (.cons rfl (.cons rfl (.cons rfl (.cons rfl .nil))))))))) rfl
  refine Gx.exit ?_
  refine Gx.thenE ?_
  refine Gx.thenE ?_
  refine Gx.blkE ?_
  refine Gx.thenN ?_
  refine Gx.seq ?_
  obtain ⟨m0, hm0⟩ := get_of_lt (xs := ms1) (k := 0) (by omega)
  have hrz := hr1 m0 (List.mem_of_getElem? hm0)
  have hll := hcnt.len
  have hfin : m0.c.cn = l := by
    rw [show i = xs.length by omega, List.take_length] at hcnt
    exact (hJ1 m0 (List.mem_of_getElem? hm0)).own hI hcnt
  refine Gx.region ?_
  refine Gx.val rfl rfl rfl (val_move rfl rfl) ?_
  refine Gx.val rfl rfl rfl (val_ixa rfl Try.underlying35 Try.ty27 rfl rfl (j := 0) (rfl) (reach_base hsa1 hm0)) ?_
  refine Gx.val rfl rfl rfl (Val.cast (val_fieldAddr rfl Try.underlying27 rfl Try.ty22 rfl rfl) (v' := ptr (sB av1) (sO av1 + 0 * 6)) rfl) ?_
  refine Gx.val rfl rfl rfl (val_load rfl Try.ty22 rfl rfl (cell_base (i := 0) (sz := 6) (j := 0) hsa1 hm0 rfl)) ?_
  refine Gx.val rfl rfl rfl (val_move rfl rfl) ?_
  refine Gx.val rfl rfl rfl (val_call (vs := [.slice m0.p.a m0.p.n m0.p.c, v7]) rfl Try.fn14 rfl (fun w H => longs_any (hrz.p.below H.below) ((H.at_ (k := 0) rfl).sls (by omega)))) ?_
  refine Gx.val rfl rfl rfl (val_assign rfl rfl) ?_
  refine Gx.done ?_
  refine Gx.thenN ?_
  refine Gx.ret ?_
  refine Gx.ret1B hW4 Try.results5 rfl ?_
  exact congrArg Value.bool (decide_eq_true hfin)

theorem counts_any {W : World} {z : Int} {sv : Value} {xs : List Sy} (hs : SlS FY 5 W sv xs) :
    Calls Try.prog 5 #[.int .i64 z, sv] W fun e w' => e = .returned (.bool true) ∧ Below W.heap.size W w' := by
  by_cases hbad : z < 1 ∨ 4 < z ∨ 120 < (xs.length : Int) + 2 * z * z ∨ 60 < (xs.length : Int)
  · exact counts_no hs hbad
  · obtain ⟨n, rfl⟩ : ∃ n : Nat, z = (n : Int) := ⟨z.toNat, by omega⟩
    rw [sq_nat] at hbad
    exact counts_yes hs (by omega) (by omega) (by omega) (by omega)
end Go.Proofs.Ytfpkfbffpkjgbaa
