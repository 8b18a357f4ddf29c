/- A script played. The walk. No condition. -/
import Derived.Test.YtgfileonpoghmaaA5
import Derived.Test.YtgfileonpoghmaaX7
namespace Go.Proofs.Ytgfileonpoghmaa
open Go.RowKit
set_option linter.unusedVariables false
set_option linter.unusedSimpArgs false
set_option maxRecDepth 100000

abbrev FM (c : Mv) : List Value := [.int .i64 c.kind, .int .i64 c.who, .int .i64 c.frm]
theorem FM_len (c : Mv) : (FM c).length = 3 := rfl
abbrev FZ (x : Int) : List Value := [.int .i64 x]
theorem FZ_len (x : Int) : (FZ x).length = 1 := rfl
theorem FZ_one (p : Int) (u : Value) (h : u ∈ FZ p) : u.oneCell' = true := by simp [FZ] at h; subst h; rfl
theorem Try.eZ : Elem Try.prog 23 27 (.int .i64 0) 1 8 := ⟨Try.underlying23, by kernel_rfl, rfl, by decide⟩
theorem stM_snoc {l : List Mv} {i : Nat} {c : Mv} {s : MS} (h : l[i]? = some c) : stM s (l.take (i + 1)) = (stepM (stM s (l.take i)) c).2 := by
  rw [take_of h, stM_app]; rfl
theorem codesM_snoc {l : List Mv} {i : Nat} {c : Mv} {s : MS} (h : l[i]? = some c) : codesM s (l.take (i + 1)) = codesM s (l.take i) ++ [(stepM (stM s (l.take i)) c).1] := by
  rw [take_of h, codesM_app]; rfl
theorem BdM.run {n : Nat} : ∀ (l : List Mv) {m : Nat} {s : MS}, BdM m n s → BdM (m + 2 * l.length) n (stM s l)
  | [], m, s, h => h
  | c :: l, m, s, h => (BdM.run l (h.step c)).mono (by simp; omega)
/-- who is inside, of the first k -/
def inL (ps : List Pq) (k : Nat) : List Nat := (List.range k).filter fun i => match ps[i]? with | some p => decide (p.how = 2) | none => false
theorem inL_succ {ps : List Pq} {k : Nat} {p : Pq} (h : ps[k]? = some p) : inL ps (k + 1) = inL ps k ++ (if p.how = 2 then [k] else []) := by
  unfold inL
  rw [List.range_succ, List.filter_append]
  by_cases q : p.how = 2 <;> simp [h, q]
theorem inL_len (ps : List Pq) (k : Nat) : (inL ps k).length ≤ k := Nat.le_trans (List.length_filter_le ..) (by simp)
theorem sumR_perm {l l' : Ws} (h : l.Perm l') : sumR l = sumR l' := by
  unfold sumR
  exact (h.map _).sum_nat
theorem sumR_zero {ms : Ws} (h : sumR ms = 0) (k : Sm × Sm) : qof ms k = [] := by
  unfold qof
  cases e : getM ms k with
  | none => rfl
  | some r =>
    obtain ⟨j, h1, _⟩ := getM_index e
    have h3 := sum_setR (y := (k, (⟨.slice none 0 0, []⟩ : Rv))) h1
    simp only [List.length_nil] at h3
    have : r.xs.length = 0 := by omega
    show r.xs = []
    exact List.eq_nil_of_length_eq_zero this
theorem play_no {W : World} {k : Int} {sv : Value} {cs : List Mv} (hs : SlS FM 3 W sv cs) (hbad : k < 1 ∨ 6 < k ∨ 120 < (cs.length : Int)) :
    Calls Try.prog 6 #[.int .i64 k, sv] W fun e w' => e = .returned (.tuple #[.agg #[.slice none 0 0, .slice none 0 0, .slice none 0 0, .int .i64 0], .int .i64 1]) ∧ Below W.heap.size W w' := by
  refine calls_pure (Gx.enter (l := []) Try.func6 rfl Try.ntmps6 rfl (Sat.start W) ?_)
  refine Gx.know (m' := [(0, .int .i64 k), (1, sv)]) (.cons rfl (.cons rfl .nil)) ?_
  refine Gx.seq ?_
  refine Gx.region ?_
  refine Gx.eff rfl rfl rfl (eff_alloc rfl Try.ty26 (vs := [.slice none 0 0, .slice none 0 0, .slice none 0 0, .int .i64 0]) rfl) ?_
  rintro _ _ ⟨b1, rfl, rfl⟩
  refine Gx.val rfl rfl rfl (val_assign rfl rfl) ?_
  refine Gx.done ?_
  refine Gx.thenN ?_
  refine Gx.seq ?_
  refine Gx.seq ?_
  refine Gx.region ?_
  refine Gx.val rfl rfl rfl (val_move rfl rfl) ?_
  refine Gx.val rfl rfl rfl (val_lss rfl rfl rfl) ?_
  refine Gx.val rfl rfl rfl (val_move rfl rfl) ?_
  refine Gx.cases (t := 16) rfl (fun h2 => ?_) (fun h2 => ?_)
  · refine Gx.skipg rfl rfl rfl rfl rfl rfl ?_
    refine Gx.skipg rfl rfl rfl rfl rfl rfl ?_
    refine Gx.val rfl rfl rfl (val_pickT rfl rfl rfl) ?_
    refine Gx.val rfl rfl rfl (val_move rfl rfl) ?_
    refine Gx.skipg rfl rfl rfl rfl rfl rfl ?_
    refine Gx.skipg rfl rfl rfl rfl rfl rfl ?_
    refine Gx.skipg rfl rfl rfl rfl rfl rfl ?_
    refine Gx.val rfl rfl rfl (val_pickT rfl rfl rfl) ?_
    refine Gx.done ?_
    refine Gx.thenN ?_
    refine Gx.t rfl ?_
    refine Gx.seq ?_
    refine Gx.region ?_
    refine Gx.val rfl rfl rfl (val_build rfl (qs := []) rfl rfl (fun w => by go_simp) (v := .agg #[.slice none 0 0, .slice none 0 0, .slice none 0 0, .int .i64 0])) ?_
    refine Gx.eff0 rfl rfl (eff_store rfl Try.ty26 rfl rfl (us := [.slice none 0 0, .slice none 0 0, .slice none 0 0, .int .i64 0]) rfl rfl rfl (k := 0) rfl (rfl) (vs' := [.slice none 0 0, .slice none 0 0, .slice none 0 0, .int .i64 0]) (rfl) (l' := [Hp.rec_ b1 [.slice none 0 0, .slice none 0 0, .slice none 0 0, .int .i64 0]]) rfl) ?_
    rintro _ _ rfl
    refine Gx.val rfl rfl rfl (val_assign rfl rfl) ?_
    refine Gx.done ?_
    refine Gx.thenN ?_
    refine Gx.ret ?_
    refine Gx.thenR ?_
    refine Gx.retC2 Try.results6 Try.ty26 rfl rfl (us := [.slice none 0 0, .slice none 0 0, .slice none 0 0, .int .i64 0]) rfl (k := 0) rfl rfl ?_
    rfl
  · refine Gx.valg rfl rfl rfl rfl rfl (val_move rfl rfl) ?_
    refine Gx.valg rfl rfl rfl rfl rfl (val_gtr rfl rfl rfl) ?_
    refine Gx.val rfl rfl rfl (val_pickF rfl rfl rfl) ?_
    refine Gx.val rfl rfl rfl (val_move rfl rfl) ?_
    refine Gx.cases (t := 20) rfl (fun h3 => ?_) (fun h3 => ?_)
    · refine Gx.skipg rfl rfl rfl rfl rfl rfl ?_
      refine Gx.skipg rfl rfl rfl rfl rfl rfl ?_
      refine Gx.skipg rfl rfl rfl rfl rfl rfl ?_
      refine Gx.val rfl rfl rfl (val_pickT rfl rfl rfl) ?_
      refine Gx.done ?_
      refine Gx.thenN ?_
      refine Gx.t rfl ?_
      refine Gx.seq ?_
      refine Gx.region ?_
      refine Gx.val rfl rfl rfl (val_build rfl (qs := []) rfl rfl (fun w => by go_simp) (v := .agg #[.slice none 0 0, .slice none 0 0, .slice none 0 0, .int .i64 0])) ?_
      refine Gx.eff0 rfl rfl (eff_store rfl Try.ty26 rfl rfl (us := [.slice none 0 0, .slice none 0 0, .slice none 0 0, .int .i64 0]) rfl rfl rfl (k := 0) rfl (rfl) (vs' := [.slice none 0 0, .slice none 0 0, .slice none 0 0, .int .i64 0]) (rfl) (l' := [Hp.rec_ b1 [.slice none 0 0, .slice none 0 0, .slice none 0 0, .int .i64 0]]) rfl) ?_
      rintro _ _ rfl
      refine Gx.val rfl rfl rfl (val_assign rfl rfl) ?_
      refine Gx.done ?_
      refine Gx.thenN ?_
      refine Gx.ret ?_
      refine Gx.thenR ?_
      refine Gx.retC2 Try.results6 Try.ty26 rfl rfl (us := [.slice none 0 0, .slice none 0 0, .slice none 0 0, .int .i64 0]) rfl (k := 0) rfl rfl ?_
      rfl
    · refine Gx.valg rfl rfl rfl rfl rfl (val_move rfl rfl) ?_
      refine Gx.valg rfl rfl rfl rfl rfl (val_len rfl Try.underlying22 rfl (len_base hs)) ?_
      refine Gx.valg rfl rfl rfl rfl rfl (val_gtr rfl rfl rfl) ?_
      refine Gx.val rfl rfl rfl (val_pickF rfl rfl rfl) ?_
      refine Gx.done ?_
      refine Gx.thenN ?_
      refine Gx.dec rfl (fun h4 => ?_) (fun h4 => ?_)
      · refine Gx.seq ?_
        refine Gx.region ?_
        refine Gx.val rfl rfl rfl (val_build rfl (qs := []) rfl rfl (fun w => by go_simp) (v := .agg #[.slice none 0 0, .slice none 0 0, .slice none 0 0, .int .i64 0])) ?_
        refine Gx.eff0 rfl rfl (eff_store rfl Try.ty26 rfl rfl (us := [.slice none 0 0, .slice none 0 0, .slice none 0 0, .int .i64 0]) rfl rfl rfl (k := 0) rfl (rfl) (vs' := [.slice none 0 0, .slice none 0 0, .slice none 0 0, .int .i64 0]) (rfl) (l' := [Hp.rec_ b1 [.slice none 0 0, .slice none 0 0, .slice none 0 0, .int .i64 0]]) rfl) ?_
        rintro _ _ rfl
        refine Gx.val rfl rfl rfl (val_assign rfl rfl) ?_
        refine Gx.done ?_
        refine Gx.thenN ?_
        refine Gx.ret ?_
        refine Gx.thenR ?_
        refine Gx.retC2 Try.results6 Try.ty26 rfl rfl (us := [.slice none 0 0, .slice none 0 0, .slice none 0 0, .int .i64 0]) rfl (k := 0) rfl rfl ?_
        rfl
      · exfalso; omega

theorem play_ok {W : World} {n : Nat} {sv : Value} {cs : List Mv} (h1n : 1 ≤ n) (h6n : n ≤ 6) (hs : SlS FM 3 W sv cs) (hcl : cs.length ≤ 120) :
    Calls Try.prog 6 #[.int .i64 ((n : Nat) : Int), sv] W fun e w' => ∃ v, e = .returned v ∧ (∃ cv iv dv aw, v = .tuple #[.agg #[cv, iv, dv, .int .i64 ((aw : Nat) : Int)], .int .i64 0] ∧ SlS FZ 1 w' cv (codesM (ms0 n) cs) ∧ SlS FN 1 w' iv (stM (ms0 n) cs).ins ∧ SlS FN 1 w' dv (inL (stM (ms0 n) cs).ps n) ∧ (aw = 0 → ∀ k, (stM (ms0 n) cs).q k = [])) ∧ Below W.heap.size W w' := by
  refine calls_some (S := fun v l => ∃ cv iv dv aw P, v = .tuple #[.agg #[cv, iv, dv, .int .i64 ((aw : Nat) : Int)], .int .i64 0] ∧ l = [Hp.own FZ 1 cv (codesM (ms0 n) cs), Hp.own FN 1 iv (stM (ms0 n) cs).ins, Hp.own FN 1 dv (inL (stM (ms0 n) cs).ps (stM (ms0 n) cs).ps.length), P] ∧ (aw = 0 → ∀ k, (stM (ms0 n) cs).q k = [])) (Gx.enter (l := []) Try.func6 rfl Try.ntmps6 rfl (Sat.start W) ?_) ?_
  refine Gx.know (m' := [(0, .int .i64 ((n : Nat) : Int)), (1, sv)]) (.cons rfl (.cons rfl .nil)) ?_
  refine Gx.seq ?_
  refine Gx.region ?_
  refine Gx.eff rfl rfl rfl (eff_alloc rfl Try.ty26 (vs := [.slice none 0 0, .slice none 0 0, .slice none 0 0, .int .i64 0]) rfl) ?_
  rintro _ _ ⟨b1, rfl, rfl⟩
  refine Gx.val rfl rfl rfl (val_assign rfl rfl) ?_
  refine Gx.done ?_
  refine Gx.thenN ?_
  refine Gx.seq ?_
  refine Gx.seq ?_
  refine Gx.region ?_
  refine Gx.val rfl rfl rfl (val_move rfl rfl) ?_
  refine Gx.val rfl rfl rfl (val_lss rfl rfl rfl) ?_
  refine Gx.val rfl rfl rfl (val_move rfl rfl) ?_
  refine Gx.slot (t := 16) (v := .bool false) (look_decF rfl (by omega)) ?_
  refine Gx.valg rfl rfl rfl rfl rfl (val_move rfl rfl) ?_
  refine Gx.valg rfl rfl rfl rfl rfl (val_gtr rfl rfl rfl) ?_
  refine Gx.val rfl rfl rfl (val_pickF rfl rfl rfl) ?_
  refine Gx.val rfl rfl rfl (val_move rfl rfl) ?_
  refine Gx.slot (t := 20) (v := .bool false) (look_decF rfl (by omega)) ?_
  refine Gx.valg rfl rfl rfl rfl rfl (val_move rfl rfl) ?_
  refine Gx.valg rfl rfl rfl rfl rfl (val_len rfl Try.underlying22 rfl (len_base hs)) ?_
  refine Gx.valg rfl rfl rfl rfl rfl (val_gtr rfl rfl rfl) ?_
  refine Gx.val rfl rfl rfl (val_pickF rfl rfl rfl) ?_
  refine Gx.done ?_
  refine Gx.thenN ?_
  refine Gx.decF rfl (by omega) ?_
  refine Gx.skip ?_
  refine Gx.thenN ?_
  refine Gx.seq ?_
  refine Gx.region ?_
  refine Gx.eff rfl rfl rfl (eff_makeMap 48 pairL vW rfl) ?_
  rintro _ _ ⟨b2, rfl, rfl⟩
  refine Gx.val rfl rfl rfl (val_build rfl (qs := [(1, .map (some b2))]) rfl rfl (fun w => by go_simp) (v := .agg #[.slice none 0 0, .map (some b2), .slice none 0 0])) ?_
  refine Gx.eff rfl rfl rfl (eff_box rfl rfl (vs := [.slice none 0 0, .map (some b2), .slice none 0 0]) rfl) ?_
  rintro _ _ ⟨b3, rfl, rfl⟩
  refine Gx.val rfl rfl rfl (val_assign rfl rfl) ?_
  refine Gx.done ?_
  refine Gx.thenN ?_
  refine Gx.seq ?_
  refine Gx.seq ?_
  refine Gx.ownNil FP 1 ?_
  refine Gx.emp ?_
  refine Gx.norm (l' := [Hp.big procH ([] : List Pm), Hp.own FP 1 (.slice none 0 0) ([]), Hp.rec_ b3 [.slice none 0 0, .map (some b2), .slice none 0 0], Hp.map Try.prog 48 pairL vW b2 ([]), Hp.rec_ b1 [.slice none 0 0, .slice none 0 0, .slice none 0 0, .int .i64 0]]) rfl ?_
  refine Gx.region ?_
  refine Gx.val rfl rfl rfl (val_move rfl rfl) ?_
  refine Gx.val rfl rfl rfl (val_move rfl rfl) ?_
  refine Gx.done ?_
  refine Gx.thenN ?_
  refine Gx.block ?_
  refine Gx.loop (ι := Nat × Value × (List Pm)) (fun ξ => (ξ.1 ≤ n) ∧ (ξ.2.2.map Pm.p = List.replicate ξ.1 (⟨0, 0, 0, 0, []⟩ : Pq)) ∧ (IsS ξ.2.1) ∧ (ξ.2.2.length = ξ.1)) (fun ξ => [(4, ptr b1 0), (6, ptr b3 0), (1, sv), (29, .int .i64 ((n : Nat) : Int)), (30, .int .i64 ((ξ.1 : Nat) : Int))]) (fun ξ => [Hp.big procH ξ.2.2, Hp.own FP 1 ξ.2.1 (ξ.2.2.map Pm.b), Hp.rec_ b3 [ξ.2.1, .map (some b2), .slice none 0 0], Hp.map Try.prog 48 pairL vW b2 ([]), Hp.rec_ b1 [.slice none 0 0, .slice none 0 0, .slice none 0 0, .int .i64 0]]) (fun ξ => n - ξ.1) (0, (.slice none 0 0), ([] : List Pm)) ⟨by first | omega | (dsimp only; omega), rfl, ⟨none, 0, 0, rfl⟩, rfl⟩ ((.cons rfl (.cons rfl (.cons rfl (.cons rfl (.cons rfl .nil)))))) rfl ?_
  rintro ⟨k, pv, pms⟩ ⟨hk, hpm, hipv, hpl⟩
  dsimp only at hk hpm hipv hpl
  refine Gx.know (m' := [(4, ptr b1 0), (6, ptr b3 0), (1, sv), (29, .int .i64 ((n : Nat) : Int)), (30, .int .i64 ((k : Nat) : Int))]) (.cons rfl (.cons rfl (.cons rfl (.cons rfl (.cons rfl .nil))))) (Gx.norm (l' := [Hp.big procH pms, Hp.own FP 1 pv (pms.map Pm.b), Hp.rec_ b3 [pv, .map (some b2), .slice none 0 0], Hp.map Try.prog 48 pairL vW b2 ([]), Hp.rec_ b1 [.slice none 0 0, .slice none 0 0, .slice none 0 0, .int .i64 0]]) rfl ?_)
  refine Gx.seq ?_
  refine Gx.region ?_
  refine Gx.val rfl rfl rfl (val_lss rfl rfl rfl) ?_
  refine Gx.done ?_
  refine Gx.thenN ?_
  refine Gx.seq ?_
  refine Gx.dec rfl (fun h4 => ?_) (fun h4 => ?_)
  · refine Gx.skip ?_
    refine Gx.thenN ?_
    refine Gx.seq ?_
    refine Gx.block ?_
    refine Gx.region ?_
    refine Gx.val rfl rfl rfl (val_move rfl rfl) ?_
    refine Gx.val rfl rfl rfl (val_move rfl rfl) ?_
    refine Gx.val rfl rfl rfl (val_nilCheck rfl rfl) ?_
    refine Gx.val rfl rfl rfl (Val.cast (val_fieldAddr rfl Try.underlying43 rfl Try.ty41 rfl rfl) (v' := ptr b3 0) rfl) ?_
    refine Gx.val rfl rfl rfl (val_load rfl Try.ty41 rfl rfl (cell_rec (k := 2) rfl rfl)) ?_
    refine Gx.val rfl rfl rfl (val_build rfl (qs := []) rfl rfl (fun w => by go_simp) (v := .agg #[.int .i64 0, .int .i64 0, .int .i64 0, .slice none 0 0, .int .i64 0])) ?_
    refine Gx.eff rfl rfl rfl (eff_box rfl rfl (vs := [.int .i64 0, .int .i64 0, .int .i64 0, .slice none 0 0, .int .i64 0]) rfl) ?_
    rintro _ _ ⟨b5, rfl, rfl⟩
    refine Gx.eff rfl rfl rfl (eff_buildSlice rfl (qs := [(0, ptr b5 0)]) rfl rfl (cs := #[ptr b5 0]) (vs := [ptr b5 0]) (E := 44) rfl (fun w => by first | (go_simp; done) | (go_simp; rfl))) ?_
    rintro _ _ ⟨b6, rfl, rfl⟩
    refine Gx.eff rfl rfl rfl (eff_push (r := b5) rfl Try.eP FP_len FP_one rfl rfl (k := 0) rfl rfl (k' := 2) rfl (by rw [List.length_map]; omega) (by rw [List.length_map]; omega)) ?_
    rintro v7 _ ⟨hiv7, rfl⟩
    refine Gx.norm (l' := [Hp.rec_ b5 [.int .i64 0, .int .i64 0, .int .i64 0, .slice none 0 0, .int .i64 0], Hp.big procH pms, Hp.own FP 1 v7 ((pms.map Pm.b) ++ [b5]), Hp.rec_ b3 [pv, .map (some b2), .slice none 0 0], Hp.map Try.prog 48 pairL vW b2 ([]), Hp.rec_ b1 [.slice none 0 0, .slice none 0 0, .slice none 0 0, .int .i64 0]]) rfl ?_
    refine Gx.val rfl rfl rfl (val_nilCheck rfl rfl) ?_
    refine Gx.val rfl rfl rfl (Val.cast (val_fieldAddr rfl Try.underlying43 rfl Try.ty41 rfl rfl) (v' := ptr b3 0) rfl) ?_
    refine Gx.eff0 rfl rfl (eff_store rfl Try.ty41 rfl rfl (us := [v7]) hiv7.cellsL rfl hiv7.all (k := 3) rfl (rfl) (vs' := [v7, .map (some b2), .slice none 0 0]) (rfl) (l' := [Hp.rec_ b5 [.int .i64 0, .int .i64 0, .int .i64 0, .slice none 0 0, .int .i64 0], Hp.big procH pms, Hp.own FP 1 v7 ((pms.map Pm.b) ++ [b5]), Hp.rec_ b3 [v7, .map (some b2), .slice none 0 0], Hp.map Try.prog 48 pairL vW b2 ([]), Hp.rec_ b1 [.slice none 0 0, .slice none 0 0, .slice none 0 0, .int .i64 0]]) rfl) ?_
    rintro _ _ rfl
    refine Gx.done ?_
    refine Gx.blkN ?_
    refine Gx.thenN ?_
    refine Gx.ownNil FN 1 ?_
    refine Gx.front 0 rfl ?_
    refine Gx.front 1 rfl ?_
    refine Gx.front 2 rfl ?_
    refine Gx.sepEq (l' := [Hp.big procH (pms ++ [(⟨b5, .slice none 0 0, (⟨0, 0, 0, 0, []⟩ : Pq)⟩ : Pm)]), Hp.own FP 1 v7 ((pms.map Pm.b) ++ [b5]), Hp.rec_ b3 [v7, .map (some b2), .slice none 0 0], Hp.map Try.prog 48 pairL vW b2 ([]), Hp.rec_ b1 [.slice none 0 0, .slice none 0 0, .slice none 0 0, .int .i64 0]]) (by show Hp.big procH pms * (_ * (_ * _)) = Hp.big procH (pms ++ [(⟨b5, .slice none 0 0, (⟨0, 0, 0, 0, []⟩ : Pq)⟩ : Pm)]) * _; rw [Hp.big_append]; show _ = (_ * ((_ * _) * 1)) * _; rw [Hp.mul_one]; simp only [Hp.mul_assoc]; rfl) ?_
    refine Gx.norm (l' := [Hp.big procH (pms ++ [(⟨b5, .slice none 0 0, (⟨0, 0, 0, 0, []⟩ : Pq)⟩ : Pm)]), Hp.own FP 1 v7 ((pms ++ [(⟨b5, .slice none 0 0, (⟨0, 0, 0, 0, []⟩ : Pq)⟩ : Pm)]).map Pm.b), Hp.rec_ b3 [v7, .map (some b2), .slice none 0 0], Hp.map Try.prog 48 pairL vW b2 ([]), Hp.rec_ b1 [.slice none 0 0, .slice none 0 0, .slice none 0 0, .int .i64 0]]) (by rw [List.map_append] <;> rfl) ?_
    refine Gx.region ?_
    refine Gx.val rfl rfl rfl (val_add rfl rfl rfl (r := ((k + 1 : Nat) : Int)) (w64 (by omega) (by omega))) ?_
    refine Gx.val rfl rfl rfl (val_move rfl rfl) ?_
    refine Gx.done ?_
    refine Gx.thenN ?_
    skip
    exact Gx.round (k + 1, v7, (pms ++ [(⟨b5, .slice none 0 0, (⟨0, 0, 0, 0, []⟩ : Pq)⟩ : Pm)])) ⟨by first | omega | (dsimp only; omega), by rw [List.map_append, hpm, List.replicate_succ']; rfl, hiv7, by simp; omega⟩ (by first | omega | (dsimp only; omega)) ((.cons rfl (.cons rfl (.cons rfl (.cons rfl (.cons rfl .nil)))))) rfl
  · refine Gx.exit ?_
    refine Gx.thenE ?_
    refine Gx.thenE ?_
    refine Gx.blkE ?_
    refine Gx.thenN ?_
    refine Gx.seq ?_
    obtain rfl : n = k := by omega
    refine Gx.ownNil FN 1 ?_
    refine Gx.front 0 rfl ?_
    refine Gx.front 4 rfl ?_
    refine Gx.front 2 rfl ?_
    refine Gx.front 3 rfl ?_
    refine Gx.front 4 rfl ?_
    refine Gx.sat (l' := [worldH b3 (300 * 0) (ms0 n), Hp.rec_ b1 [.slice none 0 0, .slice none 0 0, .slice none 0 0, .int .i64 0]]) (fun w H => ?_) ?_
    · have H2 := wayH.shut (L := 300 * 0) (mb := b2) (q := fun _ => []) (ms := []) ⟨fun _ => rfl, Nat.le_refl _, Nat.le_refl _⟩ (R := Hp.rec_ b3 [pv, .map (some b2), .slice none 0 0] * (Hp.own FP 1 pv (pms.map Pm.b) * (Hp.big procH pms * (Hp.own FN 1 (.slice none 0 0) ([]) * sep [Hp.rec_ b1 [.slice none 0 0, .slice none 0 0, .slice none 0 0, .int .i64 0]])))) (H.cast (by show Hp.rec_ b3 [pv, .map (some b2), .slice none 0 0] * (Hp.own FP 1 pv (pms.map Pm.b) * (Hp.big procH pms * (mapW b2 [] * (Hp.own FN 1 (.slice none 0 0) ([]) * sep [Hp.rec_ b1 [.slice none 0 0, .slice none 0 0, .slice none 0 0, .int .i64 0]])))) = mapW b2 [] * (1 * (Hp.rec_ b3 [pv, .map (some b2), .slice none 0 0] * (Hp.own FP 1 pv (pms.map Pm.b) * (Hp.big procH pms * (Hp.own FN 1 (.slice none 0 0) ([]) * sep [Hp.rec_ b1 [.slice none 0 0, .slice none 0 0, .slice none 0 0, .int .i64 0]]))))); rw [Hp.one_mul]; ac_rfl))
      have H3 := worldH.shut (S := b3) (L := 300 * 0) (mb := b2) (s := ms0 n) (pv := pv) (iv := .slice none 0 0) (pms := pms) (R := sep [Hp.rec_ b1 [.slice none 0 0, .slice none 0 0, .slice none 0 0, .int .i64 0]]) hpm (H2.cast (by rw [sep5]; show _ = Hp.rec_ b3 [pv, .map (some b2), .slice none 0 0] * (Hp.own FP 1 pv (pms.map Pm.b) * (Hp.big procH pms * (wayH (300 * 0) b2 (fun _ => []) * (Hp.own FN 1 (.slice none 0 0) ([]) * sep [Hp.rec_ b1 [.slice none 0 0, .slice none 0 0, .slice none 0 0, .int .i64 0]])))); ac_rfl))
      exact H3.cast (by rw [sep1]; rfl)
    refine Gx.region ?_
    refine Gx.eff rfl rfl rfl (eff_alloc rfl Try.ty26 (vs := [.slice none 0 0, .slice none 0 0, .slice none 0 0, .int .i64 0]) rfl) ?_
    rintro _ _ ⟨b8, rfl, rfl⟩
    refine Gx.done ?_
    refine Gx.thenN ?_
    refine Gx.seq ?_
    refine Gx.seq ?_
    refine Gx.ownNil FZ 1 ?_
    refine Gx.region ?_
    refine Gx.val rfl rfl rfl (val_move rfl rfl) ?_
    refine Gx.val rfl rfl rfl (val_len rfl Try.underlying22 rfl (len_base hs)) ?_
    refine Gx.val rfl rfl rfl (val_move rfl rfl) ?_
    refine Gx.done ?_
    refine Gx.thenN ?_
    refine Gx.block ?_
    refine Gx.front 2 rfl ?_
    refine Gx.front 3 rfl ?_
    refine Gx.front 3 rfl ?_
    refine Gx.front 3 rfl ?_
    refine Gx.loop (ι := Nat × Value) (fun ξ => (ξ.1 ≤ cs.length) ∧ (IsS ξ.2)) (fun ξ => [(4, ptr b1 0), (6, ptr b3 0), (7, ptr b8 0), (44, sv), (45, .int .i64 ((cs.length : Nat) : Int)), (46, .int .i64 ((ξ.1 : Nat) : Int))]) (fun ξ => [Hp.own FZ 1 ξ.2 (codesM (ms0 n) (cs.take ξ.1)), Hp.rec_ b8 [ξ.2, .slice none 0 0, .slice none 0 0, .int .i64 0], Hp.rec_ b1 [.slice none 0 0, .slice none 0 0, .slice none 0 0, .int .i64 0], worldH b3 (300 * ξ.1) (stM (ms0 n) (cs.take ξ.1))]) (fun ξ => cs.length - ξ.1) (0, (.slice none 0 0)) ⟨by first | omega | (dsimp only; omega), ⟨none, 0, 0, rfl⟩⟩ ((.cons rfl (.cons rfl (.cons rfl (.cons rfl (.cons rfl (.cons rfl .nil))))))) rfl ?_
    rintro ⟨i, cv⟩ ⟨hi, hicv⟩
    dsimp only at hi hicv
    refine Gx.know (m' := [(4, ptr b1 0), (6, ptr b3 0), (7, ptr b8 0), (44, sv), (45, .int .i64 ((cs.length : Nat) : Int)), (46, .int .i64 ((i : Nat) : Int))]) (.cons rfl (.cons rfl (.cons rfl (.cons rfl (.cons rfl (.cons rfl .nil)))))) (Gx.norm (l' := [Hp.own FZ 1 cv (codesM (ms0 n) (cs.take i)), Hp.rec_ b8 [cv, .slice none 0 0, .slice none 0 0, .int .i64 0], Hp.rec_ b1 [.slice none 0 0, .slice none 0 0, .slice none 0 0, .int .i64 0], worldH b3 (300 * i) (stM (ms0 n) (cs.take i))]) rfl ?_)
    have bd : BdM 240 n (stM (ms0 n) (cs.take i)) := ((BdM.zero n).run (cs.take i)).mono (by rw [List.length_take]; omega)
    have hci : (codesM (ms0 n) (cs.take i)).length = i := by rw [codesM_len, List.length_take]; omega
    refine Gx.seq ?_
    refine Gx.region ?_
    refine Gx.val rfl rfl rfl (val_lss rfl rfl rfl) ?_
    refine Gx.done ?_
    refine Gx.thenN ?_
    refine Gx.seq ?_
    refine Gx.dec rfl (fun h9 => ?_) (fun h9 => ?_)
    · refine Gx.skip ?_
      refine Gx.thenN ?_
      refine Gx.seq ?_
      refine Gx.block ?_
      refine Gx.seq ?_
      refine Gx.region ?_
      obtain ⟨x10, hx10⟩ := get_of_lt (xs := cs) (k := i) (by first | omega | (simp; omega))
      refine Gx.val rfl rfl rfl (val_ixa rfl Try.underlying22 Try.ty34 rfl rfl (j := i) (rfl) (reach_base hs hx10)) ?_
      refine Gx.val rfl rfl rfl (Val.cast (val_loadA rfl Try.ty34 rfl rfl rfl (cells_base hs hx10)) (v' := .agg #[.int .i64 x10.kind, .int .i64 x10.who, .int .i64 x10.frm]) rfl) ?_
      refine Gx.eff rfl rfl rfl (eff_alloc rfl Try.ty34 (vs := [.int .i64 0, .int .i64 0, .int .i64 0]) rfl) ?_
      rintro _ _ ⟨b11, rfl, rfl⟩
      refine Gx.eff0 rfl rfl (eff_store rfl Try.ty34 rfl rfl (us := [.int .i64 x10.kind, .int .i64 x10.who, .int .i64 x10.frm]) rfl rfl rfl (k := 0) rfl (rfl) (vs' := [.int .i64 x10.kind, .int .i64 x10.who, .int .i64 x10.frm]) (rfl) (l' := [Hp.rec_ b11 [.int .i64 x10.kind, .int .i64 x10.who, .int .i64 x10.frm], Hp.own FZ 1 cv (codesM (ms0 n) (cs.take i)), Hp.rec_ b8 [cv, .slice none 0 0, .slice none 0 0, .int .i64 0], Hp.rec_ b1 [.slice none 0 0, .slice none 0 0, .slice none 0 0, .int .i64 0], worldH b3 (300 * i) (stM (ms0 n) (cs.take i))]) rfl) ?_
      rintro _ _ rfl
      refine Gx.done ?_
      refine Gx.thenN ?_
      refine Gx.regionO (fun j => j == 4 || j == 5 || j == 6) 8 [0, 1, 2, 3, 4, 5, 6, 7] (fun us => match us with | [] => [Hp.rec_ b11 [.int .i64 x10.kind, .int .i64 x10.who, .int .i64 x10.frm], Hp.own FZ 1 cv (codesM (ms0 n) (cs.take i)), Hp.rec_ b8 [cv, .slice none 0 0, .slice none 0 0, .int .i64 0], Hp.rec_ b1 [.slice none 0 0, .slice none 0 0, .slice none 0 0, .int .i64 0], worldH b3 (300 * i) (stM (ms0 n) (cs.take i))] | [u1] => [worldH b3 (300 * i + 300) ((stepM (stM (ms0 n) (cs.take i)) x10).2), Hp.rec_ b11 [.int .i64 x10.kind, .int .i64 x10.who, .int .i64 x10.frm], Hp.own FZ 1 cv (codesM (ms0 n) (cs.take i)), Hp.rec_ b8 [cv, .slice none 0 0, .slice none 0 0, .int .i64 0], Hp.rec_ b1 [.slice none 0 0, .slice none 0 0, .slice none 0 0, .int .i64 0]] | [u1, u2] => [Hp.rec_ (sB u2) [.int .i64 ((stepM (stM (ms0 n) (cs.take i)) x10).1)], worldH b3 (300 * i + 300) ((stepM (stM (ms0 n) (cs.take i)) x10).2), Hp.rec_ b11 [.int .i64 x10.kind, .int .i64 x10.who, .int .i64 x10.frm], Hp.own FZ 1 cv (codesM (ms0 n) (cs.take i)), Hp.rec_ b8 [cv, .slice none 0 0, .slice none 0 0, .int .i64 0], Hp.rec_ b1 [.slice none 0 0, .slice none 0 0, .slice none 0 0, .int .i64 0]] | u1 :: u2 :: u3 :: _ => [worldH b3 (300 * i + 300) ((stepM (stM (ms0 n) (cs.take i)) x10).2), Hp.rec_ b11 [.int .i64 x10.kind, .int .i64 x10.who, .int .i64 x10.frm], Hp.own FZ 1 u3 ((codesM (ms0 n) (cs.take i)) ++ [(stepM (stM (ms0 n) (cs.take i)) x10).1]), Hp.rec_ b8 [cv, .slice none 0 0, .slice none 0 0, .int .i64 0], Hp.rec_ b1 [.slice none 0 0, .slice none 0 0, .slice none 0 0, .int .i64 0]]) Try.mixed (by kernel_rfl) rfl ?_
      refine Gw.val rfl rfl rfl rfl rfl (fun us => Val.cast (val_fieldAddr rfl Try.underlying26 rfl Try.ty23 rfl rfl) (v' := ptr b8 0) rfl) ?_
      refine Gw.val rfl rfl rfl rfl rfl (fun us => match us with | [] => val_load rfl Try.ty23 rfl rfl (cell_rec (k := 2) rfl rfl) | [u1] => val_load rfl Try.ty23 rfl rfl (cell_rec (k := 3) rfl rfl) | [u1, u2] => val_load rfl Try.ty23 rfl rfl (cell_rec (k := 4) rfl rfl) | u1 :: u2 :: u3 :: _ => val_load rfl Try.ty23 rfl rfl (cell_rec (k := 3) rfl rfl)) ?_
      refine Gw.val rfl rfl rfl rfl rfl (fun us => val_move rfl rfl) ?_
      refine Gw.val rfl rfl rfl rfl rfl (fun us => match us with | [] => Val.cast (val_loadA rfl Try.ty34 rfl rfl rfl (cells_rec (k := 0) rfl)) (v' := .agg #[.int .i64 x10.kind, .int .i64 x10.who, .int .i64 x10.frm]) rfl | [u1] => Val.cast (val_loadA rfl Try.ty34 rfl rfl rfl (cells_rec (k := 1) rfl)) (v' := .agg #[.int .i64 x10.kind, .int .i64 x10.who, .int .i64 x10.frm]) rfl | [u1, u2] => Val.cast (val_loadA rfl Try.ty34 rfl rfl rfl (cells_rec (k := 2) rfl)) (v' := .agg #[.int .i64 x10.kind, .int .i64 x10.who, .int .i64 x10.frm]) rfl | u1 :: u2 :: u3 :: _ => Val.cast (val_loadA rfl Try.ty34 rfl rfl rfl (cells_rec (k := 1) rfl)) (v' := .agg #[.int .i64 x10.kind, .int .i64 x10.who, .int .i64 x10.frm]) rfl) ?_
      refine Gw.chg rfl rfl rfl rfl rfl (fun v => v = .int .i64 ((stepM (stM (ms0 n) (cs.take i)) x10).1)) (eff_call (vs := [ptr b3 0, .agg #[.int .i64 x10.kind, .int .i64 x10.who, .int .i64 x10.frm]]) rfl Try.fn11 rfl (fun w H => step_any x10 bd h6n (by omega) (by omega) (H.at_ (k := 4) rfl))) ?_
      rintro _ rfl
      refine Gw.chg rfl rfl rfl rfl rfl (fun v => ∃ b13, v = .slice (some ⟨b13, 0, none⟩) 1 1) (Eff.mono (eff_buildSlice rfl (qs := [(0, .int .i64 ((stepM (stM (ms0 n) (cs.take i)) x10).1))]) rfl rfl (cs := #[.int .i64 ((stepM (stM (ms0 n) (cs.take i)) x10).1)]) (vs := [.int .i64 ((stepM (stM (ms0 n) (cs.take i)) x10).1)]) (E := 27) rfl (fun w => by first | (go_simp; done) | (go_simp; rfl))) (by rintro _ _ ⟨b13, rfl, rfl⟩; exact ⟨⟨b13, rfl⟩, rfl⟩)) ?_
      rintro _ ⟨b13, rfl⟩
      refine Gw.chg rfl rfl rfl rfl rfl IsS (Eff.mono (eff_push (r := (stepM (stM (ms0 n) (cs.take i)) x10).1) rfl Try.eZ FZ_len FZ_one rfl rfl (k := 0) rfl rfl (k' := 2) rfl (by rw [hci]; omega) (by rw [hci]; omega)) (fun _ _ h => ⟨h.1, congrArg sep h.2⟩)) ?_
      intro v14 hiv14
      refine Gw.val rfl rfl rfl rfl rfl (fun us => Val.cast (val_fieldAddr rfl Try.underlying26 rfl Try.ty23 rfl rfl) (v' := ptr b8 0) rfl) ?_
      refine Gw.done ?_
      refine Gx.norm (l' := [worldH b3 (300 * i + 300) ((stepM (stM (ms0 n) (cs.take i)) x10).2), Hp.rec_ b11 [.int .i64 x10.kind, .int .i64 x10.who, .int .i64 x10.frm], Hp.own FZ 1 v14 ((codesM (ms0 n) (cs.take i)) ++ [(stepM (stM (ms0 n) (cs.take i)) x10).1]), Hp.rec_ b8 [cv, .slice none 0 0, .slice none 0 0, .int .i64 0], Hp.rec_ b1 [.slice none 0 0, .slice none 0 0, .slice none 0 0, .int .i64 0]]) rfl ?_
      refine Gx.eff0 rfl rfl (eff_store rfl Try.ty23 rfl rfl (us := [v14]) hiv14.cellsL rfl hiv14.all (k := 3) rfl (rfl) (vs' := [v14, .slice none 0 0, .slice none 0 0, .int .i64 0]) (rfl) (l' := [worldH b3 (300 * i + 300) ((stepM (stM (ms0 n) (cs.take i)) x10).2), Hp.rec_ b11 [.int .i64 x10.kind, .int .i64 x10.who, .int .i64 x10.frm], Hp.own FZ 1 v14 ((codesM (ms0 n) (cs.take i)) ++ [(stepM (stM (ms0 n) (cs.take i)) x10).1]), Hp.rec_ b8 [v14, .slice none 0 0, .slice none 0 0, .int .i64 0], Hp.rec_ b1 [.slice none 0 0, .slice none 0 0, .slice none 0 0, .int .i64 0]]) rfl) ?_
      rintro _ _ rfl
      refine Gx.done ?_
      refine Gx.blkN ?_
      refine Gx.thenN ?_
      refine Gx.region ?_
      refine Gx.val rfl rfl rfl (val_add rfl rfl rfl (r := ((i + 1 : Nat) : Int)) (w64 (by omega) (by omega))) ?_
      refine Gx.val rfl rfl rfl (val_move rfl rfl) ?_
      refine Gx.done ?_
      refine Gx.thenN ?_
      refine Gx.drop 1 rfl ?_
      refine Gx.front 0 rfl ?_
      refine Gx.front 3 rfl ?_
      refine Gx.front 3 rfl ?_
      refine Gx.front 3 rfl ?_
      refine Gx.norm (l' := [Hp.own FZ 1 v14 (codesM (ms0 n) (cs.take (i + 1))), Hp.rec_ b8 [v14, .slice none 0 0, .slice none 0 0, .int .i64 0], Hp.rec_ b1 [.slice none 0 0, .slice none 0 0, .slice none 0 0, .int .i64 0], worldH b3 (300 * (i + 1)) (stM (ms0 n) (cs.take (i + 1)))]) (by rw [stM_snoc hx10, codesM_snoc hx10, Nat.mul_succ] <;> rfl) ?_
      exact Gx.round (i + 1, v14) ⟨by first | omega | (dsimp only; omega), hiv14⟩ (by first | omega | (dsimp only; omega)) ((.cons rfl (.cons rfl (.cons rfl (.cons rfl (.cons rfl (.cons rfl .nil))))))) rfl
    · refine Gx.exit ?_
      refine Gx.thenE ?_
      refine Gx.thenE ?_
      refine Gx.blkE ?_
      refine Gx.thenN ?_
      refine Gx.seq ?_
      have ei : i = cs.length := by omega
      subst ei
      rw [List.take_length] at bd hci
      refine Gx.norm (l' := [Hp.own FZ 1 cv (codesM (ms0 n) cs), Hp.rec_ b8 [cv, .slice none 0 0, .slice none 0 0, .int .i64 0], Hp.rec_ b1 [.slice none 0 0, .slice none 0 0, .slice none 0 0, .int .i64 0], worldH b3 (300 * cs.length) (stM (ms0 n) cs)]) (by rw [List.take_length] <;> rfl) ?_
      obtain ⟨s, hsd⟩ : ∃ s, s = stM (ms0 n) cs := ⟨_, rfl⟩
      rw [← hsd] at bd
      refine Gx.norm (l' := [Hp.own FZ 1 cv (codesM (ms0 n) cs), Hp.rec_ b8 [cv, .slice none 0 0, .slice none 0 0, .int .i64 0], Hp.rec_ b1 [.slice none 0 0, .slice none 0 0, .slice none 0 0, .int .i64 0], worldH b3 (300 * cs.length) s]) (by rw [hsd] <;> rfl) ?_
      refine Gx.front 3 rfl ?_
      refine Gx.exists_ (α := {q : Value × Nat × Value × List Pm × Ws // q.2.2.2.1.map Pm.p = s.ps ∧ WayOk (300 * cs.length) q.2.2.2.2 s.q}) (l' := fun q => [Hp.rec_ b3 [q.1.1, .map (some q.1.2.1), q.1.2.2.1], Hp.own FP 1 q.1.1 (q.1.2.2.2.1.map Pm.b), Hp.big procH q.1.2.2.2.1, mapW q.1.2.1 q.1.2.2.2.2, Hp.big rowH q.1.2.2.2.2, Hp.own FN 1 q.1.2.2.1 s.ins, Hp.own FZ 1 cv (codesM (ms0 n) cs), Hp.rec_ b8 [cv, .slice none 0 0, .slice none 0 0, .int .i64 0], Hp.rec_ b1 [.slice none 0 0, .slice none 0 0, .slice none 0 0, .int .i64 0]]) (fun w H => ?_) ?_
      · obtain ⟨pv, mb, iv, pms, h1, H⟩ := worldH.open_ H
        obtain ⟨ms, h2, H2⟩ := wayH.open_ (H.at_ (k := 3) rfl)
        exact ⟨⟨(pv, mb, iv, pms, ms), h1, h2⟩, H2.cast (by show mapW mb ms * (Hp.big rowH ms * (_ * (_ * (_ * (_ * (sep [Hp.own FZ 1 cv (codesM (ms0 n) cs), Hp.rec_ b8 [cv, .slice none 0 0, .slice none 0 0, .int .i64 0], Hp.rec_ b1 [.slice none 0 0, .slice none 0 0, .slice none 0 0, .int .i64 0]] * 1)))))) = _ * (_ * (_ * (mapW mb ms * (Hp.big rowH ms * (_ * sep [Hp.own FZ 1 cv (codesM (ms0 n) cs), Hp.rec_ b8 [cv, .slice none 0 0, .slice none 0 0, .int .i64 0], Hp.rec_ b1 [.slice none 0 0, .slice none 0 0, .slice none 0 0, .int .i64 0]]))))); rw [Hp.mul_one]; ac_rfl)⟩
      rintro ⟨⟨pv, mb, iv, pms, ms⟩, hmap, hok⟩
      dsimp only at hmap hok
      refine Gx.norm (l' := [Hp.rec_ b3 [pv, .map (some mb), iv], Hp.own FP 1 pv (pms.map Pm.b), Hp.big procH pms, Hp.map Try.prog 48 pairL vW mb ms, Hp.big rowH ms, Hp.own FN 1 iv s.ins, Hp.own FZ 1 cv (codesM (ms0 n) cs), Hp.rec_ b8 [cv, .slice none 0 0, .slice none 0 0, .int .i64 0], Hp.rec_ b1 [.slice none 0 0, .slice none 0 0, .slice none 0 0, .int .i64 0]]) rfl ?_
      have hpl : pms.length = s.ps.length := by rw [← hmap, List.length_map]
      have hbl : (pms.map Pm.b).length = s.ps.length := by rw [List.length_map, hpl]
      have hsl := bd.len
      have hinl := bd.ins
      have hsum := hok.sum
      refine Gx.fact (p := IsS iv) (fun w H => by obtain ⟨a, c, e⟩ := own_formM (H.at_ (k := 5) rfl); exact ⟨a, _, c, e⟩) (fun hiiv => ?_)
      obtain ⟨a15, m16, c17, rfl⟩ := hiiv
      obtain ⟨a18, m19, c20, rfl⟩ := hicv
      refine Gx.region ?_
      refine Gx.val rfl rfl rfl (val_move rfl rfl) ?_
      refine Gx.val rfl rfl rfl (val_nilCheck rfl rfl) ?_
      refine Gx.val rfl rfl rfl (Val.cast (val_fieldAddr rfl Try.underlying43 rfl Try.ty24 rfl rfl) (v' := ptr b3 2) rfl) ?_
      refine Gx.val rfl rfl rfl (val_load rfl Try.ty24 rfl rfl (cell_rec (k := 0) rfl rfl)) ?_
      refine Gx.val rfl rfl rfl (Val.cast (val_fieldAddr rfl Try.underlying26 rfl Try.ty24 rfl rfl) (v' := ptr b8 1) rfl) ?_
      refine Gx.eff0 rfl rfl (eff_store rfl Try.ty24 rfl rfl (us := [.slice a15 m16 c17]) rfl rfl rfl (k := 7) rfl (rfl) (vs' := [.slice a18 m19 c20, .slice a15 m16 c17, .slice none 0 0, .int .i64 0]) (rfl) (l' := [Hp.rec_ b3 [pv, .map (some mb), .slice a15 m16 c17], Hp.own FP 1 pv (pms.map Pm.b), Hp.big procH pms, Hp.map Try.prog 48 pairL vW mb ms, Hp.big rowH ms, Hp.own FN 1 (.slice a15 m16 c17) s.ins, Hp.own FZ 1 (.slice a18 m19 c20) (codesM (ms0 n) cs), Hp.rec_ b8 [.slice a18 m19 c20, .slice a15 m16 c17, .slice none 0 0, .int .i64 0], Hp.rec_ b1 [.slice none 0 0, .slice none 0 0, .slice none 0 0, .int .i64 0]]) rfl) ?_
      rintro _ _ rfl
      refine Gx.done ?_
      refine Gx.thenN ?_
      refine Gx.seq ?_
      refine Gx.seq ?_
      refine Gx.ownNil FN 1 ?_
      refine Gx.region ?_
      refine Gx.val rfl rfl rfl (val_move rfl rfl) ?_
      refine Gx.val rfl rfl rfl (val_nilCheck rfl rfl) ?_
      refine Gx.val rfl rfl rfl (Val.cast (val_fieldAddr rfl Try.underlying43 rfl Try.ty41 rfl rfl) (v' := ptr b3 0) rfl) ?_
      refine Gx.val rfl rfl rfl (val_load rfl Try.ty41 rfl rfl (cell_rec (k := 1) rfl rfl)) ?_
      refine Gx.val rfl rfl rfl (val_len rfl Try.underlying41 rfl (len_own (k := 2) rfl)) ?_
      refine Gx.val rfl rfl rfl (val_move rfl rfl) ?_
      refine Gx.done ?_
      refine Gx.thenN ?_
      refine Gx.block ?_
      refine Gx.front 9 rfl ?_
      refine Gx.front 8 rfl ?_
      refine Gx.front 8 rfl ?_
      refine Gx.front 8 rfl ?_
      refine Gx.front 8 rfl ?_
      refine Gx.front 8 rfl ?_
      refine Gx.front 8 rfl ?_
      refine Gx.front 8 rfl ?_
      refine Gx.front 9 rfl ?_
      refine Gx.front 9 rfl ?_
      refine Gx.loop (ι := Nat × Value) (fun ξ => (ξ.1 ≤ s.ps.length) ∧ (IsS ξ.2)) (fun ξ => [(4, ptr b1 0), (6, ptr b3 0), (7, ptr b8 0), (67, pv), (68, .int .i64 (((pms.map Pm.b).length : Nat) : Int)), (69, .int .i64 ((ξ.1 : Nat) : Int))]) (fun ξ => [Hp.own FN 1 ξ.2 (inL s.ps ξ.1), Hp.rec_ b8 [.slice a18 m19 c20, .slice a15 m16 c17, ξ.2, .int .i64 0], Hp.rec_ b3 [pv, .map (some mb), .slice a15 m16 c17], Hp.own FP 1 pv (pms.map Pm.b), Hp.big procH pms, Hp.map Try.prog 48 pairL vW mb ms, Hp.big rowH ms, Hp.own FN 1 (.slice a15 m16 c17) s.ins, Hp.own FZ 1 (.slice a18 m19 c20) (codesM (ms0 n) cs), Hp.rec_ b1 [.slice none 0 0, .slice none 0 0, .slice none 0 0, .int .i64 0]]) (fun ξ => s.ps.length - ξ.1) (0, (.slice none 0 0)) ⟨by first | omega | (dsimp only; omega), ⟨none, 0, 0, rfl⟩⟩ ((.cons rfl (.cons rfl (.cons rfl (.cons rfl (.cons rfl (.cons rfl .nil))))))) rfl ?_
      rintro ⟨j, dv⟩ ⟨hj, hidv⟩
      dsimp only at hj hidv
      refine Gx.know (m' := [(4, ptr b1 0), (6, ptr b3 0), (7, ptr b8 0), (67, pv), (68, .int .i64 (((pms.map Pm.b).length : Nat) : Int)), (69, .int .i64 ((j : Nat) : Int))]) (.cons rfl (.cons rfl (.cons rfl (.cons rfl (.cons rfl (.cons rfl .nil)))))) (Gx.norm (l' := [Hp.own FN 1 dv (inL s.ps j), Hp.rec_ b8 [.slice a18 m19 c20, .slice a15 m16 c17, dv, .int .i64 0], Hp.rec_ b3 [pv, .map (some mb), .slice a15 m16 c17], Hp.own FP 1 pv (pms.map Pm.b), Hp.big procH pms, Hp.map Try.prog 48 pairL vW mb ms, Hp.big rowH ms, Hp.own FN 1 (.slice a15 m16 c17) s.ins, Hp.own FZ 1 (.slice a18 m19 c20) (codesM (ms0 n) cs), Hp.rec_ b1 [.slice none 0 0, .slice none 0 0, .slice none 0 0, .int .i64 0]]) rfl ?_)
      refine Gx.seq ?_
      refine Gx.region ?_
      refine Gx.val rfl rfl rfl (val_lss rfl rfl rfl) ?_
      refine Gx.done ?_
      refine Gx.thenN ?_
      refine Gx.seq ?_
      refine Gx.dec rfl (fun h21 => ?_) (fun h21 => ?_)
      · refine Gx.skip ?_
        refine Gx.thenN ?_
        refine Gx.seq ?_
        refine Gx.block ?_
        refine Gx.seq ?_
        obtain ⟨m, hmj⟩ := get_of_lt (xs := pms) (k := j) (by omega)
        have hbj : (pms.map Pm.b)[j]? = some m.b := by rw [List.getElem?_map, hmj]; rfl
        have hpj : s.ps[j]? = some m.p := by rw [← hmap, List.getElem?_map, hmj]; rfl
        obtain ⟨R0, hb1, hb2⟩ := Hp.big_focus procH pms j m hmj
        have hinlj := inL_len s.ps j
        refine Gx.region ?_
        refine Gx.val rfl rfl rfl (val_move rfl rfl) ?_
        refine Gx.val rfl rfl rfl (val_ixa rfl Try.underlying41 Try.ty44 rfl rfl (j := j) (rfl) (reach_own (k := 3) rfl hbj)) ?_
        refine Gx.val rfl rfl rfl (val_load rfl Try.ty44 rfl rfl (cell_own (i := 0) (k := 3) rfl hbj rfl)) ?_
        refine Gx.val rfl rfl rfl (val_assign rfl rfl) ?_
        refine Gx.val rfl rfl rfl (val_assign rfl rfl) ?_
        refine Gx.done ?_
        refine Gx.thenN ?_
        refine Gx.seq ?_
        refine Gx.front 4 rfl ?_
        refine Gx.sepEq (l' := [Hp.rec_ m.b [.int .i64 ((m.p.n : Nat) : Int), .int .i64 ((m.p.how : Nat) : Int), .int .i64 ((m.p.key : Nat) : Int), m.v, .int .i64 ((m.p.yes : Nat) : Int)], Hp.own FN 1 m.v m.p.waits, R0, Hp.own FN 1 dv (inL s.ps j), Hp.rec_ b8 [.slice a18 m19 c20, .slice a15 m16 c17, dv, .int .i64 0], Hp.rec_ b3 [pv, .map (some mb), .slice a15 m16 c17], Hp.own FP 1 pv (pms.map Pm.b), Hp.map Try.prog 48 pairL vW mb ms, Hp.big rowH ms, Hp.own FN 1 (.slice a15 m16 c17) s.ins, Hp.own FZ 1 (.slice a18 m19 c20) (codesM (ms0 n) cs), Hp.rec_ b1 [.slice none 0 0, .slice none 0 0, .slice none 0 0, .int .i64 0]]) (by show Hp.big procH pms * _ = _ * (_ * (_ * _)); rw [hb1]; simp only [Hp.mul_assoc]; rfl) ?_
        refine Gx.region ?_
        refine Gx.val rfl rfl rfl (val_move rfl rfl) ?_
        refine Gx.val rfl rfl rfl (val_nilCheck rfl rfl) ?_
        refine Gx.val rfl rfl rfl (Val.cast (val_fieldAddr rfl Try.underlying46 rfl Try.ty3 rfl rfl) (v' := ptr m.b 1) rfl) ?_
        refine Gx.val rfl rfl rfl (val_load rfl Try.ty3 rfl rfl (cell_rec (k := 0) rfl rfl)) ?_
        refine Gx.val rfl rfl rfl (val_eql rfl rfl rfl) ?_
        refine Gx.done ?_
        refine Gx.thenN ?_
        refine Gx.dec rfl (fun h22 => ?_) (fun h22 => ?_)
        · refine Gx.region ?_
          refine Gx.val rfl rfl rfl (Val.cast (val_fieldAddr rfl Try.underlying26 rfl Try.ty24 rfl rfl) (v' := ptr b8 2) rfl) ?_
          refine Gx.val rfl rfl rfl (val_load rfl Try.ty24 rfl rfl (cell_rec (k := 4) rfl rfl)) ?_
          refine Gx.val rfl rfl rfl (val_move rfl rfl) ?_
          refine Gx.eff rfl rfl rfl (eff_buildSlice rfl (qs := [(0, .int .i64 ((j : Nat) : Int))]) rfl rfl (cs := #[.int .i64 ((j : Nat) : Int)]) (vs := [.int .i64 ((j : Nat) : Int)]) (E := 3) rfl (fun w => by first | (go_simp; done) | (go_simp; rfl))) ?_
          rintro _ _ ⟨b23, rfl, rfl⟩
          refine Gx.eff rfl rfl rfl (eff_push (r := j) rfl Try.eN FN_len FN_one rfl rfl (k := 0) rfl rfl (k' := 3) rfl (by omega) (by omega)) ?_
          rintro v24 _ ⟨hiv24, rfl⟩
          refine Gx.norm (l' := [Hp.rec_ m.b [.int .i64 ((m.p.n : Nat) : Int), .int .i64 ((m.p.how : Nat) : Int), .int .i64 ((m.p.key : Nat) : Int), m.v, .int .i64 ((m.p.yes : Nat) : Int)], Hp.own FN 1 m.v m.p.waits, R0, Hp.own FN 1 v24 ((inL s.ps j) ++ [j]), Hp.rec_ b8 [.slice a18 m19 c20, .slice a15 m16 c17, dv, .int .i64 0], Hp.rec_ b3 [pv, .map (some mb), .slice a15 m16 c17], Hp.own FP 1 pv (pms.map Pm.b), Hp.map Try.prog 48 pairL vW mb ms, Hp.big rowH ms, Hp.own FN 1 (.slice a15 m16 c17) s.ins, Hp.own FZ 1 (.slice a18 m19 c20) (codesM (ms0 n) cs), Hp.rec_ b1 [.slice none 0 0, .slice none 0 0, .slice none 0 0, .int .i64 0]]) rfl ?_
          refine Gx.val rfl rfl rfl (Val.cast (val_fieldAddr rfl Try.underlying26 rfl Try.ty24 rfl rfl) (v' := ptr b8 2) rfl) ?_
          refine Gx.eff0 rfl rfl (eff_store rfl Try.ty24 rfl rfl (us := [v24]) hiv24.cellsL rfl hiv24.all (k := 4) rfl (rfl) (vs' := [.slice a18 m19 c20, .slice a15 m16 c17, v24, .int .i64 0]) (rfl) (l' := [Hp.rec_ m.b [.int .i64 ((m.p.n : Nat) : Int), .int .i64 ((m.p.how : Nat) : Int), .int .i64 ((m.p.key : Nat) : Int), m.v, .int .i64 ((m.p.yes : Nat) : Int)], Hp.own FN 1 m.v m.p.waits, R0, Hp.own FN 1 v24 ((inL s.ps j) ++ [j]), Hp.rec_ b8 [.slice a18 m19 c20, .slice a15 m16 c17, v24, .int .i64 0], Hp.rec_ b3 [pv, .map (some mb), .slice a15 m16 c17], Hp.own FP 1 pv (pms.map Pm.b), Hp.map Try.prog 48 pairL vW mb ms, Hp.big rowH ms, Hp.own FN 1 (.slice a15 m16 c17) s.ins, Hp.own FZ 1 (.slice a18 m19 c20) (codesM (ms0 n) cs), Hp.rec_ b1 [.slice none 0 0, .slice none 0 0, .slice none 0 0, .int .i64 0]]) rfl) ?_
          rintro _ _ rfl
          refine Gx.done ?_
          refine Gx.blkN ?_
          refine Gx.thenN ?_
          refine Gx.front 2 rfl ?_
          refine Gx.front 2 rfl ?_
          refine Gx.front 2 rfl ?_
          refine Gx.sepEq (l' := [Hp.big procH pms, Hp.own FN 1 v24 ((inL s.ps j) ++ [j]), Hp.rec_ b8 [.slice a18 m19 c20, .slice a15 m16 c17, v24, .int .i64 0], Hp.rec_ b3 [pv, .map (some mb), .slice a15 m16 c17], Hp.own FP 1 pv (pms.map Pm.b), Hp.map Try.prog 48 pairL vW mb ms, Hp.big rowH ms, Hp.own FN 1 (.slice a15 m16 c17) s.ins, Hp.own FZ 1 (.slice a18 m19 c20) (codesM (ms0 n) cs), Hp.rec_ b1 [.slice none 0 0, .slice none 0 0, .slice none 0 0, .int .i64 0]]) (by show _ * (_ * (_ * _)) = Hp.big procH pms * _; rw [hb1]; simp only [Hp.mul_assoc]; rfl) ?_
          refine Gx.region ?_
          refine Gx.val rfl rfl rfl (val_add rfl rfl rfl (r := ((j + 1 : Nat) : Int)) (w64 (by omega) (by omega))) ?_
          refine Gx.val rfl rfl rfl (val_move rfl rfl) ?_
          refine Gx.done ?_
          refine Gx.thenN ?_
          refine Gx.front 9 rfl ?_
          refine Gx.front 9 rfl ?_
          refine Gx.front 9 rfl ?_
          refine Gx.front 9 rfl ?_
          refine Gx.front 9 rfl ?_
          refine Gx.front 5 rfl ?_
          refine Gx.front 9 rfl ?_
          refine Gx.front 9 rfl ?_
          refine Gx.front 9 rfl ?_
          refine Gx.front 9 rfl ?_
          refine Gx.norm (l' := [Hp.own FN 1 v24 (inL s.ps (j + 1)), Hp.rec_ b8 [.slice a18 m19 c20, .slice a15 m16 c17, v24, .int .i64 0], Hp.rec_ b3 [pv, .map (some mb), .slice a15 m16 c17], Hp.own FP 1 pv (pms.map Pm.b), Hp.big procH pms, Hp.map Try.prog 48 pairL vW mb ms, Hp.big rowH ms, Hp.own FN 1 (.slice a15 m16 c17) s.ins, Hp.own FZ 1 (.slice a18 m19 c20) (codesM (ms0 n) cs), Hp.rec_ b1 [.slice none 0 0, .slice none 0 0, .slice none 0 0, .int .i64 0]]) (by rw [inL_succ hpj, if_pos (by omega)] <;> rfl) ?_
          exact Gx.round (j + 1, v24) ⟨by first | omega | (dsimp only; omega), hiv24⟩ (by first | omega | (dsimp only; omega)) ((.cons rfl (.cons rfl (.cons rfl (.cons rfl (.cons rfl (.cons rfl .nil))))))) rfl
        · refine Gx.skip ?_
          refine Gx.blkN ?_
          refine Gx.thenN ?_
          refine Gx.front 2 rfl ?_
          refine Gx.front 2 rfl ?_
          refine Gx.front 2 rfl ?_
          refine Gx.sepEq (l' := [Hp.big procH pms, Hp.own FN 1 dv (inL s.ps j), Hp.rec_ b8 [.slice a18 m19 c20, .slice a15 m16 c17, dv, .int .i64 0], Hp.rec_ b3 [pv, .map (some mb), .slice a15 m16 c17], Hp.own FP 1 pv (pms.map Pm.b), Hp.map Try.prog 48 pairL vW mb ms, Hp.big rowH ms, Hp.own FN 1 (.slice a15 m16 c17) s.ins, Hp.own FZ 1 (.slice a18 m19 c20) (codesM (ms0 n) cs), Hp.rec_ b1 [.slice none 0 0, .slice none 0 0, .slice none 0 0, .int .i64 0]]) (by show _ * (_ * (_ * _)) = Hp.big procH pms * _; rw [hb1]; simp only [Hp.mul_assoc]; rfl) ?_
          refine Gx.region ?_
          refine Gx.val rfl rfl rfl (val_add rfl rfl rfl (r := ((j + 1 : Nat) : Int)) (w64 (by omega) (by omega))) ?_
          refine Gx.val rfl rfl rfl (val_move rfl rfl) ?_
          refine Gx.done ?_
          refine Gx.thenN ?_
          refine Gx.front 9 rfl ?_
          refine Gx.front 9 rfl ?_
          refine Gx.front 9 rfl ?_
          refine Gx.front 9 rfl ?_
          refine Gx.front 9 rfl ?_
          refine Gx.front 5 rfl ?_
          refine Gx.front 9 rfl ?_
          refine Gx.front 9 rfl ?_
          refine Gx.front 9 rfl ?_
          refine Gx.front 9 rfl ?_
          refine Gx.norm (l' := [Hp.own FN 1 dv (inL s.ps (j + 1)), Hp.rec_ b8 [.slice a18 m19 c20, .slice a15 m16 c17, dv, .int .i64 0], Hp.rec_ b3 [pv, .map (some mb), .slice a15 m16 c17], Hp.own FP 1 pv (pms.map Pm.b), Hp.big procH pms, Hp.map Try.prog 48 pairL vW mb ms, Hp.big rowH ms, Hp.own FN 1 (.slice a15 m16 c17) s.ins, Hp.own FZ 1 (.slice a18 m19 c20) (codesM (ms0 n) cs), Hp.rec_ b1 [.slice none 0 0, .slice none 0 0, .slice none 0 0, .int .i64 0]]) (by rw [inL_succ hpj, if_neg (by omega), List.append_nil] <;> rfl) ?_
          exact Gx.round (j + 1, dv) ⟨by first | omega | (dsimp only; omega), hidv⟩ (by first | omega | (dsimp only; omega)) ((.cons rfl (.cons rfl (.cons rfl (.cons rfl (.cons rfl (.cons rfl .nil))))))) rfl
      · refine Gx.exit ?_
        refine Gx.thenE ?_
        refine Gx.thenE ?_
        refine Gx.blkE ?_
        refine Gx.thenN ?_
        refine Gx.seq ?_
        refine Gx.seq ?_
        have ej : j = s.ps.length := by omega
        subst ej
        refine Gx.norm (l' := [Hp.own FN 1 dv (inL s.ps s.ps.length), Hp.rec_ b8 [.slice a18 m19 c20, .slice a15 m16 c17, dv, .int .i64 0], Hp.rec_ b3 [pv, .map (some mb), .slice a15 m16 c17], Hp.own FP 1 pv (pms.map Pm.b), Hp.big procH pms, Hp.map Try.prog 48 pairL vW mb ms, Hp.big rowH ms, Hp.own FN 1 (.slice a15 m16 c17) s.ins, Hp.own FZ 1 (.slice a18 m19 c20) (codesM (ms0 n) cs), Hp.rec_ b1 [.slice none 0 0, .slice none 0 0, .slice none 0 0, .int .i64 0]]) rfl ?_
        have hinlj := inL_len s.ps s.ps.length
        refine Gx.region ?_
        refine Gx.val rfl rfl rfl (val_move rfl rfl) ?_
        refine Gx.val rfl rfl rfl (val_nilCheck rfl rfl) ?_
        refine Gx.val rfl rfl rfl (Val.cast (val_fieldAddr rfl Try.underlying43 rfl Try.ty40 rfl rfl) (v' := ptr b3 1) rfl) ?_
        refine Gx.val rfl rfl rfl (val_load rfl Try.ty40 rfl rfl (cell_rec (k := 2) rfl rfl)) ?_
        refine Gx.eff rfl rfl rfl (eff_range rfl Try.underlying40 rfl (k := 5) rfl) ?_
        rintro _ _ ⟨r25, rfl, rfl⟩
        refine Gx.norm (l' := [Hp.own FN 1 dv (inL s.ps s.ps.length), Hp.rec_ b8 [.slice a18 m19 c20, .slice a15 m16 c17, dv, .int .i64 0], Hp.rec_ b3 [pv, .map (some mb), .slice a15 m16 c17], Hp.own FP 1 pv (pms.map Pm.b), Hp.big procH pms, Hp.iter Try.prog 48 pairL vW mb r25 ms ms, Hp.big rowH ms, Hp.own FN 1 (.slice a15 m16 c17) s.ins, Hp.own FZ 1 (.slice a18 m19 c20) (codesM (ms0 n) cs), Hp.rec_ b1 [.slice none 0 0, .slice none 0 0, .slice none 0 0, .int .i64 0]]) rfl ?_
        refine Gx.done ?_
        refine Gx.thenN ?_
        refine Gx.block ?_
        refine Gx.front 9 rfl ?_
        refine Gx.front 9 rfl ?_
        refine Gx.front 9 rfl ?_
        refine Gx.front 9 rfl ?_
        refine Gx.front 9 rfl ?_
        refine Gx.front 9 rfl ?_
        refine Gx.front 9 rfl ?_
        refine Gx.front 9 rfl ?_
        refine Gx.front 8 rfl ?_
        refine Gx.front 9 rfl ?_
        refine Gx.loop (ι := Ws × Nat) (fun ξ => (ξ.2 + sumR ξ.1 = sumR ms) ∧ (∀ p ∈ ξ.1, p ∈ ms)) (fun ξ => [(4, ptr b1 0), (6, ptr b3 0), (7, ptr b8 0), (90, ptr r25 0)]) (fun ξ => [Hp.rec_ b8 [.slice a18 m19 c20, .slice a15 m16 c17, dv, .int .i64 ((ξ.2 : Nat) : Int)], Hp.own FN 1 dv (inL s.ps s.ps.length), Hp.rec_ b3 [pv, .map (some mb), .slice a15 m16 c17], Hp.own FP 1 pv (pms.map Pm.b), Hp.big procH pms, Hp.iter Try.prog 48 pairL vW mb r25 ms ξ.1, Hp.big rowH ms, Hp.own FN 1 (.slice a15 m16 c17) s.ins, Hp.own FZ 1 (.slice a18 m19 c20) (codesM (ms0 n) cs), Hp.rec_ b1 [.slice none 0 0, .slice none 0 0, .slice none 0 0, .int .i64 0]]) (fun ξ => ξ.1.length) (ms, 0) ⟨by dsimp only; omega, fun p h => h⟩ ((.cons rfl (.cons rfl (.cons rfl (.cons rfl .nil))))) rfl ?_
        rintro ⟨left, acc⟩ ⟨hacc, hsub⟩
        dsimp only at hacc hsub
        refine Gx.know (m' := [(4, ptr b1 0), (6, ptr b3 0), (7, ptr b8 0), (90, ptr r25 0)]) (.cons rfl (.cons rfl (.cons rfl (.cons rfl .nil)))) (Gx.norm (l' := [Hp.rec_ b8 [.slice a18 m19 c20, .slice a15 m16 c17, dv, .int .i64 ((acc : Nat) : Int)], Hp.own FN 1 dv (inL s.ps s.ps.length), Hp.rec_ b3 [pv, .map (some mb), .slice a15 m16 c17], Hp.own FP 1 pv (pms.map Pm.b), Hp.big procH pms, Hp.iter Try.prog 48 pairL vW mb r25 ms left, Hp.big rowH ms, Hp.own FN 1 (.slice a15 m16 c17) s.ins, Hp.own FZ 1 (.slice a18 m19 c20) (codesM (ms0 n) cs), Hp.rec_ b1 [.slice none 0 0, .slice none 0 0, .slice none 0 0, .int .i64 0]]) rfl ?_)
        refine Gx.seq ?_
        refine Gx.region ?_
        refine Gx.eff rfl rfl rfl (eff_next (kf := pairV) rfl Try.kL (fun _ _ => trivial) rfl (k := 5) rfl) ?_
        rintro _ _ (⟨hl26, rfl, rfl⟩ | ⟨ka27, xv28, rs29, hp30, rfl, rfl⟩)
        · refine Gx.norm (l' := [Hp.rec_ b8 [.slice a18 m19 c20, .slice a15 m16 c17, dv, .int .i64 ((acc : Nat) : Int)], Hp.own FN 1 dv (inL s.ps s.ps.length), Hp.rec_ b3 [pv, .map (some mb), .slice a15 m16 c17], Hp.own FP 1 pv (pms.map Pm.b), Hp.big procH pms, Hp.map Try.prog 48 pairL vW mb ms, Hp.big rowH ms, Hp.own FN 1 (.slice a15 m16 c17) s.ins, Hp.own FZ 1 (.slice a18 m19 c20) (codesM (ms0 n) cs), Hp.rec_ b1 [.slice none 0 0, .slice none 0 0, .slice none 0 0, .int .i64 0]]) rfl ?_
          refine Gx.val rfl rfl rfl (val_extract rfl rfl rfl) ?_
          refine Gx.done ?_
          refine Gx.thenN ?_
          refine Gx.seq ?_
          refine Gx.f rfl ?_
          refine Gx.exit ?_
          refine Gx.thenE ?_
          refine Gx.thenE ?_
          refine Gx.blkE ?_
          refine Gx.thenN ?_
          refine Gx.seq ?_
          have hall : acc = sumR ms := by rw [hl26] at hacc; simpa [sumR] using hacc
          obtain ⟨a31, m32, c33, rfl⟩ := hidv
          refine Gx.region ?_
          refine Gx.val rfl rfl rfl (Val.cast (val_loadA rfl Try.ty26 rfl rfl rfl (cells_rec (k := 0) rfl)) (v' := .agg #[.slice a18 m19 c20, .slice a15 m16 c17, .slice a31 m32 c33, .int .i64 ((acc : Nat) : Int)]) rfl) ?_
          refine Gx.eff0 rfl rfl (eff_store rfl Try.ty26 rfl rfl (us := [.slice a18 m19 c20, .slice a15 m16 c17, .slice a31 m32 c33, .int .i64 ((acc : Nat) : Int)]) rfl rfl rfl (k := 9) rfl (rfl) (vs' := [.slice a18 m19 c20, .slice a15 m16 c17, .slice a31 m32 c33, .int .i64 ((acc : Nat) : Int)]) (rfl) (l' := [Hp.rec_ b8 [.slice a18 m19 c20, .slice a15 m16 c17, .slice a31 m32 c33, .int .i64 ((acc : Nat) : Int)], Hp.own FN 1 (.slice a31 m32 c33) (inL s.ps s.ps.length), Hp.rec_ b3 [pv, .map (some mb), .slice a15 m16 c17], Hp.own FP 1 pv (pms.map Pm.b), Hp.big procH pms, Hp.map Try.prog 48 pairL vW mb ms, Hp.big rowH ms, Hp.own FN 1 (.slice a15 m16 c17) s.ins, Hp.own FZ 1 (.slice a18 m19 c20) (codesM (ms0 n) cs), Hp.rec_ b1 [.slice a18 m19 c20, .slice a15 m16 c17, .slice a31 m32 c33, .int .i64 ((acc : Nat) : Int)]]) rfl) ?_
          rintro _ _ rfl
          refine Gx.val rfl rfl rfl (val_assign rfl rfl) ?_
          refine Gx.done ?_
          refine Gx.thenN ?_
          refine Gx.ret ?_
          refine Gx.drop 6 rfl ?_
          refine Gx.drop 5 rfl ?_
          refine Gx.drop 4 rfl ?_
          refine Gx.drop 3 rfl ?_
          refine Gx.drop 2 rfl ?_
          refine Gx.drop 0 rfl ?_
          refine Gx.front 3 rfl ?_
          refine Gx.front 1 rfl ?_
          refine Gx.front 2 rfl ?_
          refine Gx.front 3 rfl ?_
          refine Gx.retC2 Try.results6 Try.ty26 rfl rfl (us := [.slice a18 m19 c20, .slice a15 m16 c17, .slice a31 m32 c33, .int .i64 ((acc : Nat) : Int)]) rfl (k := 3) rfl rfl ?_
          subst hsd
          exact ⟨_, _, _, acc, _, rfl, rfl, fun h k => by rw [← hok.eq k]; exact sumR_zero (hall.symm.trans h) k⟩
        · refine Gx.norm (l' := [Hp.rec_ b8 [.slice a18 m19 c20, .slice a15 m16 c17, dv, .int .i64 ((acc : Nat) : Int)], Hp.own FN 1 dv (inL s.ps s.ps.length), Hp.rec_ b3 [pv, .map (some mb), .slice a15 m16 c17], Hp.own FP 1 pv (pms.map Pm.b), Hp.big procH pms, Hp.iterE Try.prog 48 pairL vW pairV mb r25 ms rs29 ka27 xv28, Hp.big rowH ms, Hp.own FN 1 (.slice a15 m16 c17) s.ins, Hp.own FZ 1 (.slice a18 m19 c20) (codesM (ms0 n) cs), Hp.rec_ b1 [.slice none 0 0, .slice none 0 0, .slice none 0 0, .int .i64 0]]) rfl ?_
          refine Gx.val rfl rfl rfl (val_extract rfl rfl rfl) ?_
          refine Gx.done ?_
          refine Gx.thenN ?_
          refine Gx.seq ?_
          refine Gx.t rfl ?_
          refine Gx.skip ?_
          refine Gx.thenN ?_
          refine Gx.block ?_
          refine Gx.seq ?_
          refine Gx.region ?_
          refine Gx.eff rfl rfl rfl (eff_entry rfl rfl (k := 5) rfl) ?_
          rintro _ _ ⟨rfl, rfl⟩
          refine Gx.norm (l' := [Hp.rec_ b8 [.slice a18 m19 c20, .slice a15 m16 c17, dv, .int .i64 ((acc : Nat) : Int)], Hp.own FN 1 dv (inL s.ps s.ps.length), Hp.rec_ b3 [pv, .map (some mb), .slice a15 m16 c17], Hp.own FP 1 pv (pms.map Pm.b), Hp.big procH pms, Hp.iter Try.prog 48 pairL vW mb r25 ms rs29, Hp.big rowH ms, Hp.own FN 1 (.slice a15 m16 c17) s.ins, Hp.own FZ 1 (.slice a18 m19 c20) (codesM (ms0 n) cs), Hp.rec_ b1 [.slice none 0 0, .slice none 0 0, .slice none 0 0, .int .i64 0]]) rfl ?_
          refine Gx.val rfl rfl rfl (val_extract rfl rfl rfl) ?_
          refine Gx.val rfl rfl rfl (val_assign rfl rfl) ?_
          refine Gx.done ?_
          refine Gx.thenN ?_
          obtain ⟨q9, hq9⟩ := List.getElem?_of_mem (hsub (ka27, xv28) (hp30.symm.subset List.mem_cons_self))
          obtain ⟨R9, hr1, hr2⟩ := Hp.big_focus rowH ms q9 _ hq9
          have e1 := sumR_perm hp30
          simp only [sumR, List.map_cons, List.sum_cons] at e1 hacc hsum
          refine Gx.front 6 rfl ?_
          refine Gx.sepEq (l' := [Hp.own FN 1 xv28.v xv28.xs, R9, Hp.rec_ b8 [.slice a18 m19 c20, .slice a15 m16 c17, dv, .int .i64 ((acc : Nat) : Int)], Hp.own FN 1 dv (inL s.ps s.ps.length), Hp.rec_ b3 [pv, .map (some mb), .slice a15 m16 c17], Hp.own FP 1 pv (pms.map Pm.b), Hp.big procH pms, Hp.iter Try.prog 48 pairL vW mb r25 ms rs29, Hp.own FN 1 (.slice a15 m16 c17) s.ins, Hp.own FZ 1 (.slice a18 m19 c20) (codesM (ms0 n) cs), Hp.rec_ b1 [.slice none 0 0, .slice none 0 0, .slice none 0 0, .int .i64 0]]) (by show Hp.big rowH ms * _ = _ * (_ * _); rw [hr1]; simp only [Hp.mul_assoc]; rfl) ?_
          refine Gx.region ?_
          refine Gx.val rfl rfl rfl (Val.cast (val_fieldAddr rfl Try.underlying26 rfl Try.ty3 rfl rfl) (v' := ptr b8 3) rfl) ?_
          refine Gx.val rfl rfl rfl (val_load rfl Try.ty3 rfl rfl (cell_rec (k := 2) rfl rfl)) ?_
          refine Gx.val rfl rfl rfl (val_move rfl rfl) ?_
          refine Gx.val rfl rfl rfl (val_len rfl Try.underlying24 rfl (len_own (k := 0) rfl)) ?_
          refine Gx.val rfl rfl rfl (val_add rfl rfl rfl (r := ((acc + xv28.xs.length : Nat) : Int)) (w64 (by omega) (by omega))) ?_
          refine Gx.val rfl rfl rfl (Val.cast (val_fieldAddr rfl Try.underlying26 rfl Try.ty3 rfl rfl) (v' := ptr b8 3) rfl) ?_
          refine Gx.eff0 rfl rfl (eff_store rfl Try.ty3 rfl rfl (us := [.int .i64 ((acc + xv28.xs.length : Nat) : Int)]) rfl rfl rfl (k := 2) rfl (rfl) (vs' := [.slice a18 m19 c20, .slice a15 m16 c17, dv, .int .i64 ((acc + xv28.xs.length : Nat) : Int)]) (rfl) (l' := [Hp.own FN 1 xv28.v xv28.xs, R9, Hp.rec_ b8 [.slice a18 m19 c20, .slice a15 m16 c17, dv, .int .i64 ((acc + xv28.xs.length : Nat) : Int)], Hp.own FN 1 dv (inL s.ps s.ps.length), Hp.rec_ b3 [pv, .map (some mb), .slice a15 m16 c17], Hp.own FP 1 pv (pms.map Pm.b), Hp.big procH pms, Hp.iter Try.prog 48 pairL vW mb r25 ms rs29, Hp.own FN 1 (.slice a15 m16 c17) s.ins, Hp.own FZ 1 (.slice a18 m19 c20) (codesM (ms0 n) cs), Hp.rec_ b1 [.slice none 0 0, .slice none 0 0, .slice none 0 0, .int .i64 0]]) rfl) ?_
          rintro _ _ rfl
          refine Gx.done ?_
          refine Gx.blkN ?_
          refine Gx.thenN ?_
          refine Gx.front 1 rfl ?_
          refine Gx.front 1 rfl ?_
          refine Gx.sepEq (l' := [Hp.big rowH ms, Hp.rec_ b8 [.slice a18 m19 c20, .slice a15 m16 c17, dv, .int .i64 ((acc + xv28.xs.length : Nat) : Int)], Hp.own FN 1 dv (inL s.ps s.ps.length), Hp.rec_ b3 [pv, .map (some mb), .slice a15 m16 c17], Hp.own FP 1 pv (pms.map Pm.b), Hp.big procH pms, Hp.iter Try.prog 48 pairL vW mb r25 ms rs29, Hp.own FN 1 (.slice a15 m16 c17) s.ins, Hp.own FZ 1 (.slice a18 m19 c20) (codesM (ms0 n) cs), Hp.rec_ b1 [.slice none 0 0, .slice none 0 0, .slice none 0 0, .int .i64 0]]) (by show _ * (_ * _) = Hp.big rowH ms * _; rw [hr1]; simp only [Hp.mul_assoc]; rfl) ?_
          refine Gx.front 9 rfl ?_
          refine Gx.front 9 rfl ?_
          refine Gx.front 9 rfl ?_
          refine Gx.front 3 rfl ?_
          refine Gx.front 9 rfl ?_
          refine Gx.front 9 rfl ?_
          refine Gx.front 9 rfl ?_
          refine Gx.front 9 rfl ?_
          refine Gx.front 9 rfl ?_
          refine Gx.front 9 rfl ?_
          exact Gx.round (rs29, acc + xv28.xs.length) ⟨by have e1 := sumR_perm hp30; simp only [sumR, List.map_cons, List.sum_cons] at e1 hacc ⊢; omega, fun p hp => hsub p (hp30.symm.subset (List.mem_cons_of_mem _ hp))⟩ (by have e9 := hp30.length_eq; simp only [List.length_cons] at e9; dsimp only at e9 ⊢; omega) ((.cons rfl (.cons rfl (.cons rfl (.cons rfl .nil))))) rfl
  rintro v l w ⟨cv, iv, dv, aw, P, rfl, rfl, h⟩ H
  have bd := (BdM.zero n).run cs
  have hins := bd.ins
  have hlen := bd.len
  have hil := inL_len (stM (ms0 n) cs).ps (stM (ms0 n) cs).ps.length
  refine ⟨cv, iv, dv, aw, rfl, (H.at_ (k := 0) rfl).sls (by rw [codesM_len]; omega), (H.at_ (k := 1) rfl).sls (by omega), ?_, h⟩
  have := (H.at_ (k := 2) rfl).sls (by omega)
  rwa [hlen] at this
end Go.Proofs.Ytgfileonpoghmaa
