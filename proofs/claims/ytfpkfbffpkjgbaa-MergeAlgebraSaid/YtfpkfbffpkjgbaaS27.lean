/- The library's sort: parting in two. The walks. No condition. -/
import Derived.Test.YtfpkfbffpkjgbaaS26
namespace Go.Proofs.Ytfpkfbffpkjgbaa
open Go.RowKit
set_option linter.unusedVariables false
set_option linter.unusedSimpArgs false
set_option maxRecDepth 100000

section
variable {P Q : Dk → Prop} {M : List Dk} {a b i j : Nat} {x y : Dk}
theorem All.snoc (h : All P a i M) (hx : M[i]? = some x) (hp : P x) : All P a (i + 1) M := fun k z h0 h1 hz => by
  by_cases e : k = i
  · subst e; rw [hx] at hz; cases hz; exact hp
  · exact h k z h0 (by omega) hz
theorem All.cons (h : All P (j + 1) b M) (hy : M[j]? = some y) (hp : P y) (hj : 1 ≤ j) : All P (j - 1 + 1) b M := fun k z h0 h1 hz => by
  by_cases e : k = j
  · subst e; rw [hy] at hz; cases hz; exact hp
  · exact h k z (by omega) h1 hz
theorem swap_first {xs : List Dk} {p : Nat} {w z : Dk} (hw : xs[a]? = some w) (hz : xs[p]? = some z) : ((xs.set a z).set p w)[a]? = some z := by
  rw [swap_at hw hz]
  split
  · rename_i e; subst e; rw [hw] at hz; exact hz
  · rw [if_pos rfl]
theorem part_lt (hi : M[i]? = some x) (hj : M[j]? = some y) (hx : Q x) (hy : P y) (hpq : ∀ z, P z → ¬ Q z) (hij : i ≤ j) : i < j := by
  rcases Nat.lt_or_ge i j with q | q
  · exact q
  · obtain rfl : i = j := by omega
    rw [hi] at hj; cases hj
    exact absurd hx (hpq _ hy)
theorem part_lo (hlo : All P (a + 1) i M) (hi : M[i]? = some x) (hj : M[j]? = some y) (hy : P y) (hij : i < j) : All P (a + 1) (i + 1) ((M.set i y).set j x) := fun k z h0 h1 hz => by
  rw [swap_at hi hj, if_neg (by omega)] at hz
  split at hz
  · cases hz; exact hy
  · exact hlo k z h0 (by omega) hz
theorem part_hi (hhi : All Q (j + 1) b M) (hi : M[i]? = some x) (hj : M[j]? = some y) (hx : Q x) (hij : i < j) : All Q (j - 1 + 1) b ((M.set i y).set j x) := fun k z h0 h1 hz => by
  rw [swap_at hi hj] at hz
  split at hz
  · cases hz; exact hx
  · rw [if_neg (by omega)] at hz
    exact hhi k z (by omega) h1 hz
theorem part_keep {pv : Dk} (hpv : M[a]? = some pv) (hi : M[i]? = some x) (hj : M[j]? = some y) (h1 : a < i) (h2 : a < j) : ((M.set i y).set j x)[a]? = some pv := by rw [swap_at hi hj, if_neg (by omega), if_neg (by omega)]; exact hpv
theorem part_end {pv : Dk} (hlo : All P (a + 1) (j + 1) M) (hhi : All Q (j + 1) b M) (hj : M[j]? = some y) (hpv : M[a]? = some pv) (ha : a ≤ j) :
    ((M.set j pv).set a y)[j]? = some pv ∧ All P a j ((M.set j pv).set a y) ∧ All Q (j + 1) b ((M.set j pv).set a y) := by
  have hat := swap_at hj hpv
  refine ⟨?_, fun k z h0 h1 hz => ?_, fun k z h0 h1 hz => ?_⟩
  · rw [hat]
    split
    · rename_i e; subst e; rw [hj] at hpv; exact hpv
    · rw [if_pos rfl]
  · rw [hat] at hz
    split at hz
    · rename_i e; subst e; cases hz
      exact hlo j y (by omega) (by omega) hj
    · rw [if_neg (by omega)] at hz
      exact hlo k z (by omega) (by omega) hz
  · rw [hat, if_neg (by omega), if_neg (by omega)] at hz
    exact hhi k z h0 h1 hz
end
set_option maxHeartbeats 2000000 in
theorem parteq_any {W w : World} {v : Value} {xs : List Dk} {R : Hp} {a b p : Nat} {pv : Dk} (hap : a ≤ p) (hpb : p < b) (hb : b ≤ xs.length) (hl : xs.length ≤ 65000) (hp : xs[p]? = some pv) (H : Sat W w (Hp.own FK 3 v xs * R)) :
    Calls Try.prog 56 #[v, .int .i64 ((a : Nat) : Int), .int .i64 ((b : Nat) : Int), .int .i64 ((p : Nat) : Int), .func (.func 26) #[] #[]] w (Ret W fun u l => ∃ ys mid, Sh a b xs ys ∧ a + 1 ≤ mid ∧ mid ≤ b ∧ All (fun z => ¬ kK pv < kK z) a mid ys ∧ All (fun z => kK pv < kK z) mid b ys ∧ u = .int .i64 ((mid : Nat) : Int) ∧ sep l = Hp.own FK 3 v ys * R) := by
  refine Gx.enter (l := [Hp.own FK 3 v xs, R]) Try.func56 rfl Try.ntmps56 rfl (H.frame1) ?_
  refine Gx.know (m' := [(0, v), (1, .int .i64 ((a : Nat) : Int)), (2, .int .i64 ((b : Nat) : Int)), (3, .int .i64 ((p : Nat) : Int)), (4, .func (.func 26) #[] #[])]) (.cons rfl (.cons rfl (.cons rfl (.cons rfl (.cons rfl .nil))))) ?_
  refine Gx.seq ?_
  refine Gx.region ?_
  refine Gx.val rfl rfl rfl (val_assign rfl rfl) ?_
  refine Gx.done ?_
  refine Gx.thenN ?_
  refine Gx.seq ?_
  obtain ⟨w0, hw⟩ := get_of_lt (xs := xs) (k := a) (by omega)
  refine Gx.regionO (fun j => j == 13) 15 [0, 1, 2, 3, 4, 5, 6, 7, 8, 9, 10, 11, 12, 13, 14] (fun us => match us with | [] => [Hp.own FK 3 v xs, R] | u1 :: _ => [Hp.own FK 3 v (xs.set a pv), R]) Try.mixed (by kernel_rfl) rfl ?_
  refine Gw.val rfl rfl rfl rfl rfl (fun us => val_move rfl rfl) ?_
  refine Gw.val rfl rfl rfl rfl rfl (fun us => val_move rfl rfl) ?_
  refine Gw.val rfl rfl rfl rfl rfl (fun us => val_move rfl rfl) ?_
  refine Gw.val rfl rfl rfl rfl rfl (fun us => val_move rfl rfl) ?_
  refine Gw.val rfl rfl rfl rfl rfl (fun us => val_move rfl rfl) ?_
  refine Gw.val rfl rfl rfl rfl rfl (fun us => val_move rfl rfl) ?_
  refine Gw.val0 rfl rfl rfl (by kernel_rfl) rfl rfl (val_ixa rfl Try.underlying25 Try.ty59 rfl rfl (j := p) (rfl) (reach_own (k := 0) rfl hp)) ?_
  refine Gw.val0 rfl rfl rfl (by kernel_rfl) rfl rfl (Val.cast (val_loadA rfl Try.ty59 rfl rfl rfl (cells_own (k := 0) rfl hp)) (v' := .agg #[.int .i64 pv.1.item, .int .i64 pv.1.who, .int .i64 pv.1.n]) rfl) ?_
  refine Gw.val rfl rfl rfl rfl rfl (fun us => val_move rfl rfl) ?_
  refine Gw.val rfl rfl rfl rfl rfl (fun us => val_move rfl rfl) ?_
  obtain ⟨x1, hx1⟩ := get_of_lt (xs := xs.set a pv) (k := a) (by first | omega | (simp; omega))
  refine Gw.val rfl rfl rfl rfl rfl (fun us => match us with | [] => val_ixa rfl Try.underlying25 Try.ty59 rfl rfl (j := a) (rfl) (reach_own (k := 0) rfl hw) | u1 :: _ => val_ixa rfl Try.underlying25 Try.ty59 rfl rfl (j := a) (rfl) (reach_own (k := 0) rfl hx1)) ?_
  refine Gw.val0 rfl rfl rfl (by kernel_rfl) rfl rfl (Val.cast (val_loadA rfl Try.ty59 rfl rfl rfl (cells_own (k := 0) rfl hw)) (v' := .agg #[.int .i64 w0.1.item, .int .i64 w0.1.who, .int .i64 w0.1.n]) rfl) ?_
  refine Gw.val0 rfl rfl rfl (by kernel_rfl) rfl rfl (val_ixa rfl Try.underlying25 Try.ty59 rfl rfl (j := a) (rfl) (reach_own (k := 0) rfl hw)) ?_
  refine Gw.chg0 rfl rfl rfl rfl (Eff.mono (eff_storeElA pv rfl Try.ty59 rfl rfl rfl FK_one (k := 0) rfl FK_len hw (l' := [Hp.own FK 3 v (xs.set a pv), R]) rfl) (fun _ _ h => congrArg sep h)) (fun _ => ?_)
  obtain ⟨x2, hx2⟩ := get_of_lt (xs := xs.set a pv) (k := p) (by first | omega | (simp; omega))
  refine Gw.val0 rfl rfl rfl (by kernel_rfl) rfl rfl (val_ixa rfl Try.underlying25 Try.ty59 rfl rfl (j := p) (rfl) (reach_own (k := 0) rfl hx2)) ?_
  refine Gw.done ?_
  refine Gx.norm (l' := [Hp.own FK 3 v (xs.set a pv), R]) rfl ?_
  refine Gx.eff0 rfl rfl (eff_storeElA w0 rfl Try.ty59 rfl rfl rfl FK_one (k := 0) rfl FK_len hx2 (l' := [Hp.own FK 3 v ((xs.set a pv).set p w0), R]) rfl) ?_
  rintro _ _ rfl
  refine Gx.done ?_
  refine Gx.thenN ?_
  refine Gx.seq ?_
  obtain ⟨M, hMe⟩ : ∃ M, M = (xs.set a pv).set p w0 := ⟨_, rfl⟩
  refine Gx.norm (l' := [Hp.own FK 3 v M, R]) (by rw [hMe] <;> rfl) ?_
  have hsh : Sh a b xs M := by rw [hMe]; exact Sh.swap (.refl _) (by omega) (by omega) (by omega) (by omega) hw hp
  have hpv : M[a]? = some pv := by rw [hMe]; exact swap_first hw hp
  have hM := hsh.len
  refine Gx.region ?_
  refine Gx.val rfl rfl rfl (val_move rfl rfl) ?_
  refine Gx.val rfl rfl rfl (val_add rfl rfl rfl (r := ((a + 1 : Nat) : Int)) (w64 (by omega) (by omega))) ?_
  refine Gx.val rfl rfl rfl (val_move rfl rfl) ?_
  refine Gx.val rfl rfl rfl (val_sub rfl rfl rfl (r := ((b - 1 : Nat) : Int)) (w64 (by omega) (by omega))) ?_
  refine Gx.val rfl rfl rfl (val_assign rfl rfl) ?_
  refine Gx.val rfl rfl rfl (val_assign rfl rfl) ?_
  refine Gx.done ?_
  refine Gx.thenN ?_
  refine Gx.seq ?_
  refine Gx.block ?_
  refine Gx.loop (ι := Nat × Nat × (List Dk)) (fun ξ => (a + 1 ≤ ξ.1) ∧ (ξ.1 ≤ ξ.2.1 + 1) ∧ (ξ.2.1 + 1 ≤ b) ∧ (Sh a b xs ξ.2.2) ∧ (ξ.2.2[a]? = some pv) ∧ (All (fun z => ¬ kK pv < kK z) (a + 1) ξ.1 ξ.2.2) ∧ (All (fun z => kK pv < kK z) (ξ.2.1 + 1) b ξ.2.2)) (fun ξ => [(0, v), (1, .int .i64 ((a : Nat) : Int)), (4, .func (.func 26) #[] #[]), (11, .int .i64 ((ξ.1 : Nat) : Int)), (12, .int .i64 ((ξ.2.1 : Nat) : Int))]) (fun ξ => [Hp.own FK 3 v ξ.2.2, R]) (fun ξ => ξ.2.1 + 1 - ξ.1) (a + 1, b - 1, M) ⟨by first | omega | (dsimp only; omega), by first | omega | (dsimp only; omega), by first | omega | (dsimp only; omega), hsh, hpv, fun k z h0 h1 => by first | omega | (dsimp only at h0 h1; omega), fun k z h0 h1 => by first | omega | (dsimp only at h0 h1; omega)⟩ ((.cons rfl (.cons rfl (.cons rfl (.cons rfl (.cons rfl .nil)))))) rfl ?_
  rintro ⟨i, j, M2⟩ ⟨hai, hij, hjb, hsh2, hpv2, hlo, hhi⟩
  dsimp only at hai hij hjb hsh2 hpv2 hlo hhi
  refine Gx.know (m' := [(0, v), (1, .int .i64 ((a : Nat) : Int)), (4, .func (.func 26) #[] #[]), (11, .int .i64 ((i : Nat) : Int)), (12, .int .i64 ((j : Nat) : Int))]) (.cons rfl (.cons rfl (.cons rfl (.cons rfl (.cons rfl .nil))))) (Gx.norm (l' := [Hp.own FK 3 v M2, R]) rfl ?_)
  have hM2 := hsh2.len
  refine Gx.block ?_
  refine Gx.meet (ι := Nat) (fun ξ => (a + 1 ≤ ξ) ∧ (ξ ≤ j + 1) ∧ (i ≤ ξ) ∧ (All (fun z => ¬ kK pv < kK z) (a + 1) ξ M2) ∧ ((j < ξ) ∨ ∃ x, M2[ξ]? = some x ∧ (fun z => kK pv < kK z) x)) (fun ξ => [(0, v), (1, .int .i64 ((a : Nat) : Int)), (4, .func (.func 26) #[] #[]), (11, .int .i64 ((ξ : Nat) : Int)), (12, .int .i64 ((j : Nat) : Int))]) (fun ξ => [Hp.own FK 3 v M2, R]) ?_ ?_
  · refine Gx.block ?_
    refine Gx.loop (ι := Nat) (fun ξ => (a + 1 ≤ ξ) ∧ (ξ ≤ j + 1) ∧ (i ≤ ξ) ∧ (All (fun z => ¬ kK pv < kK z) (a + 1) ξ M2)) (fun ξ => [(0, v), (1, .int .i64 ((a : Nat) : Int)), (4, .func (.func 26) #[] #[]), (11, .int .i64 ((ξ : Nat) : Int)), (12, .int .i64 ((j : Nat) : Int))]) (fun ξ => [Hp.own FK 3 v M2, R]) (fun ξ => j + 1 - ξ) i ⟨by first | omega | (dsimp only; omega), by first | omega | (dsimp only; omega), by first | omega | (dsimp only; omega), hlo⟩ ((.cons rfl (.cons rfl (.cons rfl (.cons rfl (.cons rfl .nil)))))) rfl ?_
    rintro iq ⟨haiiq, hijiq, hiiiq, hloiq⟩
    refine Gx.know (m' := [(0, v), (1, .int .i64 ((a : Nat) : Int)), (4, .func (.func 26) #[] #[]), (11, .int .i64 ((iq : Nat) : Int)), (12, .int .i64 ((j : Nat) : Int))]) (.cons rfl (.cons rfl (.cons rfl (.cons rfl (.cons rfl .nil))))) (Gx.norm (l' := [Hp.own FK 3 v M2, R]) rfl ?_)
    refine Gx.seq ?_
    refine Gx.seq ?_
    refine Gx.regionQ Try.mixed (by kernel_rfl) ?_
    refine Gq.val rfl rfl rfl (val_move rfl rfl) ?_
    refine Gq.val rfl rfl rfl (val_move rfl rfl) ?_
    refine Gq.val rfl rfl rfl (val_leq rfl rfl rfl) ?_
    refine Gq.val rfl rfl rfl (val_move rfl rfl) ?_
    refine Gq.cases (t := 34) rfl (fun h3 => ?_) (fun h3 => ?_)
    · obtain ⟨xiq, hxiq⟩ := get_of_lt (xs := M2) (k := iq) (by omega)
      refine Gq.valg rfl rfl rfl rfl rfl (val_move rfl rfl) ?_
      refine Gq.valg rfl rfl rfl rfl rfl (val_move rfl rfl) ?_
      refine Gq.valg rfl rfl rfl rfl rfl (val_move rfl rfl) ?_
      refine Gq.valg rfl rfl rfl rfl rfl (val_ixa rfl Try.underlying25 Try.ty59 rfl rfl (j := a) (rfl) (reach_own (k := 0) rfl hpv2)) ?_
      refine Gq.valg rfl rfl rfl rfl rfl (Val.cast (val_loadA rfl Try.ty59 rfl rfl rfl (cells_own (k := 0) rfl hpv2)) (v' := .agg #[.int .i64 pv.1.item, .int .i64 pv.1.who, .int .i64 pv.1.n]) rfl) ?_
      refine Gq.valg rfl rfl rfl rfl rfl (val_move rfl rfl) ?_
      refine Gq.valg rfl rfl rfl rfl rfl (val_move rfl rfl) ?_
      refine Gq.valg rfl rfl rfl rfl rfl (val_ixa rfl Try.underlying25 Try.ty59 rfl rfl (j := iq) (rfl) (reach_own (k := 0) rfl hxiq)) ?_
      refine Gq.valg rfl rfl rfl rfl rfl (Val.cast (val_loadA rfl Try.ty59 rfl rfl rfl (cells_own (k := 0) rfl hxiq)) (v' := .agg #[.int .i64 xiq.1.item, .int .i64 xiq.1.who, .int .i64 xiq.1.n]) rfl) ?_
      refine Gq.valg rfl rfl rfl rfl rfl (val_callV (vs := [.agg #[.int .i64 pv.1.item, .int .i64 pv.1.who, .int .i64 pv.1.n], .agg #[.int .i64 xiq.1.item, .int .i64 xiq.1.who, .int .i64 xiq.1.n]]) (fs := []) (cs := []) rfl Try.fn26 rfl rfl (fun w H => dots_any pv.1 xiq.1)) ?_
      refine Gq.valg rfl rfl rfl rfl rfl (Val.cast (val_lss rfl rfl rfl) (v' := .bool (decide (kK pv < kK xiq))) (congrArg Value.bool (decide_eq_decide.2 kK_lt))) ?_
      refine Gq.valg rfl rfl rfl rfl rfl (val_notD rfl rfl) ?_
      refine Gq.val rfl rfl rfl (val_pickT rfl rfl rfl) ?_
      refine Gq.done ?_
      refine Gx.thenN ?_
      refine Gx.dec rfl (fun h4 => ?_) (fun h4 => ?_)
      · refine Gx.skip ?_
        refine Gx.thenN ?_
        refine Gx.block ?_
        refine Gx.region ?_
        refine Gx.val rfl rfl rfl (val_move rfl rfl) ?_
        refine Gx.val rfl rfl rfl (val_add rfl rfl rfl (r := ((iq + 1 : Nat) : Int)) (w64 (by omega) (by omega))) ?_
        refine Gx.val rfl rfl rfl (val_assign rfl rfl) ?_
        refine Gx.done ?_
        refine Gx.blkN ?_
        refine Gx.thenN ?_
        exact Gx.round (iq + 1) ⟨by first | omega | (dsimp only; omega), by first | omega | (dsimp only; omega), by first | omega | (dsimp only; omega), hloiq.snoc hxiq (by first | omega | (dsimp only; omega))⟩ (by first | omega | (dsimp only; omega)) ((.cons rfl (.cons rfl (.cons rfl (.cons rfl (.cons rfl .nil)))))) rfl
      refine Gx.exit ?_
      refine Gx.thenE ?_
      refine Gx.thenE ?_
      refine Gx.blkE ?_
      refine Gx.thenN ?_
      exact Gx.fam iq ⟨by first | omega | (dsimp only; omega), by first | omega | (dsimp only; omega), by first | omega | (dsimp only; omega), hloiq, .inr ⟨xiq, hxiq, (by first | omega | (dsimp only; omega))⟩⟩ ((.cons rfl (.cons rfl (.cons rfl (.cons rfl (.cons rfl .nil)))))) rfl
    refine Gq.skipg rfl rfl rfl rfl rfl rfl ?_
    refine Gq.skipg rfl rfl rfl rfl rfl rfl ?_
    refine Gq.skipg rfl rfl rfl rfl rfl rfl ?_
    refine Gq.skipg rfl rfl rfl rfl rfl rfl ?_
    refine Gq.skipg rfl rfl rfl rfl rfl rfl ?_
    refine Gq.skipg rfl rfl rfl rfl rfl rfl ?_
    refine Gq.skipg rfl rfl rfl rfl rfl rfl ?_
    refine Gq.skipg rfl rfl rfl rfl rfl rfl ?_
    refine Gq.skipg rfl rfl rfl rfl rfl rfl ?_
    refine Gq.skipg rfl rfl rfl rfl rfl rfl ?_
    refine Gq.skipg rfl rfl rfl rfl rfl rfl ?_
    refine Gq.skipg rfl rfl rfl rfl rfl rfl ?_
    refine Gq.val rfl rfl rfl (val_pickF rfl rfl rfl) ?_
    refine Gq.done ?_
    refine Gx.thenN ?_
    refine Gx.f rfl ?_
    refine Gx.exit ?_
    refine Gx.thenE ?_
    refine Gx.thenE ?_
    refine Gx.blkE ?_
    refine Gx.thenN ?_
    exact Gx.fam iq ⟨by first | omega | (dsimp only; omega), by first | omega | (dsimp only; omega), by first | omega | (dsimp only; omega), hloiq, .inl (by omega)⟩ ((.cons rfl (.cons rfl (.cons rfl (.cons rfl (.cons rfl .nil)))))) rfl
  rintro iq ⟨haiiq, hijiq, hiiiq, hloiq, hstiq⟩
  refine Gx.know (m' := [(0, v), (1, .int .i64 ((a : Nat) : Int)), (4, .func (.func 26) #[] #[]), (11, .int .i64 ((iq : Nat) : Int)), (12, .int .i64 ((j : Nat) : Int))]) (.cons rfl (.cons rfl (.cons rfl (.cons rfl (.cons rfl .nil))))) (Gx.norm (l' := [Hp.own FK 3 v M2, R]) rfl ?_)
  refine Gx.meet (ι := Nat) (fun ξ => (ξ + 1 ≤ b) ∧ (iq ≤ ξ + 1) ∧ (ξ ≤ j) ∧ (All (fun z => kK pv < kK z) (ξ + 1) b M2) ∧ ((ξ < iq) ∨ ∃ y, M2[ξ]? = some y ∧ (fun z => ¬ kK pv < kK z) y)) (fun ξ => [(0, v), (1, .int .i64 ((a : Nat) : Int)), (4, .func (.func 26) #[] #[]), (11, .int .i64 ((iq : Nat) : Int)), (12, .int .i64 ((ξ : Nat) : Int))]) (fun ξ => [Hp.own FK 3 v M2, R]) ?_ ?_
  · refine Gx.block ?_
    refine Gx.loop (ι := Nat) (fun ξ => (ξ + 1 ≤ b) ∧ (iq ≤ ξ + 1) ∧ (ξ ≤ j) ∧ (All (fun z => kK pv < kK z) (ξ + 1) b M2)) (fun ξ => [(0, v), (1, .int .i64 ((a : Nat) : Int)), (4, .func (.func 26) #[] #[]), (11, .int .i64 ((iq : Nat) : Int)), (12, .int .i64 ((ξ : Nat) : Int))]) (fun ξ => [Hp.own FK 3 v M2, R]) (fun ξ => ξ) j ⟨by first | omega | (dsimp only; omega), by first | omega | (dsimp only; omega), by first | omega | (dsimp only; omega), hhi⟩ ((.cons rfl (.cons rfl (.cons rfl (.cons rfl (.cons rfl .nil)))))) rfl ?_
    rintro jq ⟨hjbjq, hijjq, hjjjq, hhijq⟩
    refine Gx.know (m' := [(0, v), (1, .int .i64 ((a : Nat) : Int)), (4, .func (.func 26) #[] #[]), (11, .int .i64 ((iq : Nat) : Int)), (12, .int .i64 ((jq : Nat) : Int))]) (.cons rfl (.cons rfl (.cons rfl (.cons rfl (.cons rfl .nil))))) (Gx.norm (l' := [Hp.own FK 3 v M2, R]) rfl ?_)
    refine Gx.seq ?_
    refine Gx.seq ?_
    refine Gx.regionQ Try.mixed (by kernel_rfl) ?_
    refine Gq.val rfl rfl rfl (val_move rfl rfl) ?_
    refine Gq.val rfl rfl rfl (val_move rfl rfl) ?_
    refine Gq.val rfl rfl rfl (val_leq rfl rfl rfl) ?_
    refine Gq.val rfl rfl rfl (val_move rfl rfl) ?_
    refine Gq.cases (t := 53) rfl (fun h5 => ?_) (fun h5 => ?_)
    · obtain ⟨yjq, hyjq⟩ := get_of_lt (xs := M2) (k := jq) (by omega)
      refine Gq.valg rfl rfl rfl rfl rfl (val_move rfl rfl) ?_
      refine Gq.valg rfl rfl rfl rfl rfl (val_move rfl rfl) ?_
      refine Gq.valg rfl rfl rfl rfl rfl (val_move rfl rfl) ?_
      refine Gq.valg rfl rfl rfl rfl rfl (val_ixa rfl Try.underlying25 Try.ty59 rfl rfl (j := a) (rfl) (reach_own (k := 0) rfl hpv2)) ?_
      refine Gq.valg rfl rfl rfl rfl rfl (Val.cast (val_loadA rfl Try.ty59 rfl rfl rfl (cells_own (k := 0) rfl hpv2)) (v' := .agg #[.int .i64 pv.1.item, .int .i64 pv.1.who, .int .i64 pv.1.n]) rfl) ?_
      refine Gq.valg rfl rfl rfl rfl rfl (val_move rfl rfl) ?_
      refine Gq.valg rfl rfl rfl rfl rfl (val_move rfl rfl) ?_
      refine Gq.valg rfl rfl rfl rfl rfl (val_ixa rfl Try.underlying25 Try.ty59 rfl rfl (j := jq) (rfl) (reach_own (k := 0) rfl hyjq)) ?_
      refine Gq.valg rfl rfl rfl rfl rfl (Val.cast (val_loadA rfl Try.ty59 rfl rfl rfl (cells_own (k := 0) rfl hyjq)) (v' := .agg #[.int .i64 yjq.1.item, .int .i64 yjq.1.who, .int .i64 yjq.1.n]) rfl) ?_
      refine Gq.valg rfl rfl rfl rfl rfl (val_callV (vs := [.agg #[.int .i64 pv.1.item, .int .i64 pv.1.who, .int .i64 pv.1.n], .agg #[.int .i64 yjq.1.item, .int .i64 yjq.1.who, .int .i64 yjq.1.n]]) (fs := []) (cs := []) rfl Try.fn26 rfl rfl (fun w H => dots_any pv.1 yjq.1)) ?_
      refine Gq.valg rfl rfl rfl rfl rfl (Val.cast (val_lss rfl rfl rfl) (v' := .bool (decide (kK pv < kK yjq))) (congrArg Value.bool (decide_eq_decide.2 kK_lt))) ?_
      refine Gq.val rfl rfl rfl (val_pickT rfl rfl rfl) ?_
      refine Gq.done ?_
      refine Gx.thenN ?_
      refine Gx.dec rfl (fun h6 => ?_) (fun h6 => ?_)
      · refine Gx.skip ?_
        refine Gx.thenN ?_
        refine Gx.block ?_
        refine Gx.region ?_
        refine Gx.val rfl rfl rfl (val_move rfl rfl) ?_
        refine Gx.val rfl rfl rfl (val_sub rfl rfl rfl (r := ((jq - 1 : Nat) : Int)) (w64 (by omega) (by omega))) ?_
        refine Gx.val rfl rfl rfl (val_assign rfl rfl) ?_
        refine Gx.done ?_
        refine Gx.blkN ?_
        refine Gx.thenN ?_
        exact Gx.round (jq - 1) ⟨by first | omega | (dsimp only; omega), by first | omega | (dsimp only; omega), by first | omega | (dsimp only; omega), hhijq.cons hyjq (by first | omega | (dsimp only; omega)) (by omega)⟩ (by first | omega | (dsimp only; omega)) ((.cons rfl (.cons rfl (.cons rfl (.cons rfl (.cons rfl .nil)))))) rfl
      refine Gx.exit ?_
      refine Gx.thenE ?_
      refine Gx.thenE ?_
      refine Gx.blkE ?_
      refine Gx.thenN ?_
      exact Gx.fam jq ⟨by first | omega | (dsimp only; omega), by first | omega | (dsimp only; omega), by first | omega | (dsimp only; omega), hhijq, .inr ⟨yjq, hyjq, (by first | omega | (dsimp only; omega))⟩⟩ ((.cons rfl (.cons rfl (.cons rfl (.cons rfl (.cons rfl .nil)))))) rfl
    refine Gq.skipg rfl rfl rfl rfl rfl rfl ?_
    refine Gq.skipg rfl rfl rfl rfl rfl rfl ?_
    refine Gq.skipg rfl rfl rfl rfl rfl rfl ?_
    refine Gq.skipg rfl rfl rfl rfl rfl rfl ?_
    refine Gq.skipg rfl rfl rfl rfl rfl rfl ?_
    refine Gq.skipg rfl rfl rfl rfl rfl rfl ?_
    refine Gq.skipg rfl rfl rfl rfl rfl rfl ?_
    refine Gq.skipg rfl rfl rfl rfl rfl rfl ?_
    refine Gq.skipg rfl rfl rfl rfl rfl rfl ?_
    refine Gq.skipg rfl rfl rfl rfl rfl rfl ?_
    refine Gq.skipg rfl rfl rfl rfl rfl rfl ?_
    refine Gq.val rfl rfl rfl (val_pickF rfl rfl rfl) ?_
    refine Gq.done ?_
    refine Gx.thenN ?_
    refine Gx.f rfl ?_
    refine Gx.exit ?_
    refine Gx.thenE ?_
    refine Gx.thenE ?_
    refine Gx.blkE ?_
    refine Gx.thenN ?_
    exact Gx.fam jq ⟨by first | omega | (dsimp only; omega), by first | omega | (dsimp only; omega), by first | omega | (dsimp only; omega), hhijq, .inl (by omega)⟩ ((.cons rfl (.cons rfl (.cons rfl (.cons rfl (.cons rfl .nil)))))) rfl
  rintro jq ⟨hjbjq, hijjq, hjjjq, hhijq, hstjq⟩
  refine Gx.know (m' := [(0, v), (1, .int .i64 ((a : Nat) : Int)), (4, .func (.func 26) #[] #[]), (11, .int .i64 ((iq : Nat) : Int)), (12, .int .i64 ((jq : Nat) : Int))]) (.cons rfl (.cons rfl (.cons rfl (.cons rfl (.cons rfl .nil))))) (Gx.norm (l' := [Hp.own FK 3 v M2, R]) rfl ?_)
  refine Gx.seq ?_
  refine Gx.seq ?_
  refine Gx.region ?_
  refine Gx.val rfl rfl rfl (val_move rfl rfl) ?_
  refine Gx.val rfl rfl rfl (val_move rfl rfl) ?_
  refine Gx.val rfl rfl rfl (val_gtr rfl rfl rfl) ?_
  refine Gx.done ?_
  refine Gx.thenN ?_
  refine Gx.dec rfl (fun h7 => ?_) (fun h7 => ?_)
  · refine Gx.exit ?_
    refine Gx.thenE ?_
    refine Gx.blkO rfl ?_
    refine Gx.thenE ?_
    refine Gx.blkE ?_
    refine Gx.thenN ?_
    refine Gx.seq ?_
    refine Gx.region ?_
    refine Gx.val rfl rfl rfl (val_move rfl rfl) ?_
    refine Gx.val rfl rfl rfl (val_assign rfl rfl) ?_
    refine Gx.done ?_
    refine Gx.thenN ?_
    refine Gx.ret ?_
    refine Gx.ret1 Try.results56 rfl ?_
    exact ⟨_, iq, hsh2, by omega, by omega, fun k z h0 h1 hz => by
      by_cases e : k = a
      · subst e; rw [hpv2] at hz; cases hz; exact Int.lt_irrefl _
      · exact hloiq k z (by omega) h1 hz, fun k z h0 h1 hz => hhijq k z (by omega) h1 hz, rfl, sep1 _ _⟩
  refine Gx.skip ?_
  refine Gx.thenN ?_
  refine Gx.seq ?_
  obtain ⟨xiq, hxiq, hqiq⟩ := hstiq.resolve_left (by omega)
  obtain ⟨yjq, hyjq, hpjq⟩ := hstjq.resolve_left (by omega)
  have hlt : iq < jq := part_lt (P := (fun z => ¬ kK pv < kK z)) (Q := (fun z => kK pv < kK z)) hxiq hyjq hqiq hpjq (fun z h => by first | omega | (dsimp only at *; omega)) (by omega)
  refine Gx.regionO (fun j => j == 13) 15 [0, 1, 2, 3, 4, 5, 6, 7, 8, 9, 10, 11, 12, 13, 14] (fun us => match us with | [] => [Hp.own FK 3 v M2, R] | u1 :: _ => [Hp.own FK 3 v (M2.set iq yjq), R]) Try.mixed (by kernel_rfl) rfl ?_
  refine Gw.val rfl rfl rfl rfl rfl (fun us => val_move rfl rfl) ?_
  refine Gw.val rfl rfl rfl rfl rfl (fun us => val_move rfl rfl) ?_
  refine Gw.val rfl rfl rfl rfl rfl (fun us => val_move rfl rfl) ?_
  refine Gw.val rfl rfl rfl rfl rfl (fun us => val_move rfl rfl) ?_
  refine Gw.val rfl rfl rfl rfl rfl (fun us => val_move rfl rfl) ?_
  refine Gw.val rfl rfl rfl rfl rfl (fun us => val_move rfl rfl) ?_
  refine Gw.val0 rfl rfl rfl (by kernel_rfl) rfl rfl (val_ixa rfl Try.underlying25 Try.ty59 rfl rfl (j := jq) (rfl) (reach_own (k := 0) rfl hyjq)) ?_
  refine Gw.val0 rfl rfl rfl (by kernel_rfl) rfl rfl (Val.cast (val_loadA rfl Try.ty59 rfl rfl rfl (cells_own (k := 0) rfl hyjq)) (v' := .agg #[.int .i64 yjq.1.item, .int .i64 yjq.1.who, .int .i64 yjq.1.n]) rfl) ?_
  refine Gw.val rfl rfl rfl rfl rfl (fun us => val_move rfl rfl) ?_
  refine Gw.val rfl rfl rfl rfl rfl (fun us => val_move rfl rfl) ?_
  obtain ⟨x8, hx8⟩ := get_of_lt (xs := M2.set iq yjq) (k := iq) (by first | omega | (simp; omega))
  refine Gw.val rfl rfl rfl rfl rfl (fun us => match us with | [] => val_ixa rfl Try.underlying25 Try.ty59 rfl rfl (j := iq) (rfl) (reach_own (k := 0) rfl hxiq) | u1 :: _ => val_ixa rfl Try.underlying25 Try.ty59 rfl rfl (j := iq) (rfl) (reach_own (k := 0) rfl hx8)) ?_
  refine Gw.val0 rfl rfl rfl (by kernel_rfl) rfl rfl (Val.cast (val_loadA rfl Try.ty59 rfl rfl rfl (cells_own (k := 0) rfl hxiq)) (v' := .agg #[.int .i64 xiq.1.item, .int .i64 xiq.1.who, .int .i64 xiq.1.n]) rfl) ?_
  refine Gw.val0 rfl rfl rfl (by kernel_rfl) rfl rfl (val_ixa rfl Try.underlying25 Try.ty59 rfl rfl (j := iq) (rfl) (reach_own (k := 0) rfl hxiq)) ?_
  refine Gw.chg0 rfl rfl rfl rfl (Eff.mono (eff_storeElA yjq rfl Try.ty59 rfl rfl rfl FK_one (k := 0) rfl FK_len hxiq (l' := [Hp.own FK 3 v (M2.set iq yjq), R]) rfl) (fun _ _ h => congrArg sep h)) (fun _ => ?_)
  obtain ⟨x9, hx9⟩ := get_of_lt (xs := M2.set iq yjq) (k := jq) (by first | omega | (simp; omega))
  refine Gw.val0 rfl rfl rfl (by kernel_rfl) rfl rfl (val_ixa rfl Try.underlying25 Try.ty59 rfl rfl (j := jq) (rfl) (reach_own (k := 0) rfl hx9)) ?_
  refine Gw.done ?_
  refine Gx.norm (l' := [Hp.own FK 3 v (M2.set iq yjq), R]) rfl ?_
  refine Gx.eff0 rfl rfl (eff_storeElA xiq rfl Try.ty59 rfl rfl rfl FK_one (k := 0) rfl FK_len hx9 (l' := [Hp.own FK 3 v ((M2.set iq yjq).set jq xiq), R]) rfl) ?_
  rintro _ _ rfl
  refine Gx.done ?_
  refine Gx.thenN ?_
  refine Gx.seq ?_
  refine Gx.region ?_
  refine Gx.val rfl rfl rfl (val_move rfl rfl) ?_
  refine Gx.val rfl rfl rfl (val_add rfl rfl rfl (r := ((iq + 1 : Nat) : Int)) (w64 (by omega) (by omega))) ?_
  refine Gx.val rfl rfl rfl (val_assign rfl rfl) ?_
  refine Gx.done ?_
  refine Gx.thenN ?_
  refine Gx.region ?_
  refine Gx.val rfl rfl rfl (val_move rfl rfl) ?_
  refine Gx.val rfl rfl rfl (val_sub rfl rfl rfl (r := ((jq - 1 : Nat) : Int)) (w64 (by omega) (by omega))) ?_
  refine Gx.val rfl rfl rfl (val_assign rfl rfl) ?_
  refine Gx.done ?_
  refine Gx.blkN ?_
  refine Gx.thenN ?_
  exact Gx.round (iq + 1, jq - 1, (M2.set iq yjq).set jq xiq) ⟨by first | omega | (dsimp only; omega), by first | omega | (dsimp only; omega), by first | omega | (dsimp only; omega), Sh.swap hsh2 (by omega) (by omega) (by omega) (by omega) hxiq hyjq, part_keep hpv2 hxiq hyjq (by omega) (by omega), part_lo hloiq hxiq hyjq hpjq hlt, part_hi hhijq hxiq hyjq hqiq hlt⟩ (by first | omega | (dsimp only; omega)) ((.cons rfl (.cons rfl (.cons rfl (.cons rfl (.cons rfl .nil)))))) rfl

set_option maxHeartbeats 2000000 in
theorem part_any {W w : World} {v : Value} {xs : List Dk} {R : Hp} {a b p : Nat} {pv : Dk} (hap : a ≤ p) (hpb : p < b) (hb : b ≤ xs.length) (hl : xs.length ≤ 65000) (hp : xs[p]? = some pv) (H : Sat W w (Hp.own FK 3 v xs * R)) :
    Calls Try.prog 57 #[v, .int .i64 ((a : Nat) : Int), .int .i64 ((b : Nat) : Int), .int .i64 ((p : Nat) : Int), .func (.func 26) #[] #[]] w (Ret W fun u l => ∃ ys mid al, Sh a b xs ys ∧ a ≤ mid ∧ mid + 1 ≤ b ∧ ys[mid]? = some pv ∧ All (fun z => kK z < kK pv) a mid ys ∧ All (fun z => kK pv ≤ kK z) (mid + 1) b ys ∧ u = .tuple #[.int .i64 ((mid : Nat) : Int), .bool al] ∧ sep l = Hp.own FK 3 v ys * R) := by
  refine Gx.enter (l := [Hp.own FK 3 v xs, R]) Try.func57 rfl Try.ntmps57 rfl (H.frame1) ?_
  refine Gx.know (m' := [(0, v), (1, .int .i64 ((a : Nat) : Int)), (2, .int .i64 ((b : Nat) : Int)), (3, .int .i64 ((p : Nat) : Int)), (4, .func (.func 26) #[] #[])]) (.cons rfl (.cons rfl (.cons rfl (.cons rfl (.cons rfl .nil))))) ?_
  refine Gx.seq ?_
  refine Gx.region ?_
  refine Gx.val rfl rfl rfl (val_assign rfl rfl) ?_
  refine Gx.val rfl rfl rfl (val_assign rfl rfl) ?_
  refine Gx.done ?_
  refine Gx.thenN ?_
  refine Gx.seq ?_
  obtain ⟨w0, hw⟩ := get_of_lt (xs := xs) (k := a) (by omega)
  refine Gx.regionO (fun j => j == 13) 15 [0, 1, 2, 3, 4, 5, 6, 7, 8, 9, 10, 11, 12, 13, 14] (fun us => match us with | [] => [Hp.own FK 3 v xs, R] | u1 :: _ => [Hp.own FK 3 v (xs.set a pv), R]) Try.mixed (by kernel_rfl) rfl ?_
  refine Gw.val rfl rfl rfl rfl rfl (fun us => val_move rfl rfl) ?_
  refine Gw.val rfl rfl rfl rfl rfl (fun us => val_move rfl rfl) ?_
  refine Gw.val rfl rfl rfl rfl rfl (fun us => val_move rfl rfl) ?_
  refine Gw.val rfl rfl rfl rfl rfl (fun us => val_move rfl rfl) ?_
  refine Gw.val rfl rfl rfl rfl rfl (fun us => val_move rfl rfl) ?_
  refine Gw.val rfl rfl rfl rfl rfl (fun us => val_move rfl rfl) ?_
  refine Gw.val0 rfl rfl rfl (by kernel_rfl) rfl rfl (val_ixa rfl Try.underlying25 Try.ty59 rfl rfl (j := p) (rfl) (reach_own (k := 0) rfl hp)) ?_
  refine Gw.val0 rfl rfl rfl (by kernel_rfl) rfl rfl (Val.cast (val_loadA rfl Try.ty59 rfl rfl rfl (cells_own (k := 0) rfl hp)) (v' := .agg #[.int .i64 pv.1.item, .int .i64 pv.1.who, .int .i64 pv.1.n]) rfl) ?_
  refine Gw.val rfl rfl rfl rfl rfl (fun us => val_move rfl rfl) ?_
  refine Gw.val rfl rfl rfl rfl rfl (fun us => val_move rfl rfl) ?_
  obtain ⟨x1, hx1⟩ := get_of_lt (xs := xs.set a pv) (k := a) (by first | omega | (simp; omega))
  refine Gw.val rfl rfl rfl rfl rfl (fun us => match us with | [] => val_ixa rfl Try.underlying25 Try.ty59 rfl rfl (j := a) (rfl) (reach_own (k := 0) rfl hw) | u1 :: _ => val_ixa rfl Try.underlying25 Try.ty59 rfl rfl (j := a) (rfl) (reach_own (k := 0) rfl hx1)) ?_
  refine Gw.val0 rfl rfl rfl (by kernel_rfl) rfl rfl (Val.cast (val_loadA rfl Try.ty59 rfl rfl rfl (cells_own (k := 0) rfl hw)) (v' := .agg #[.int .i64 w0.1.item, .int .i64 w0.1.who, .int .i64 w0.1.n]) rfl) ?_
  refine Gw.val0 rfl rfl rfl (by kernel_rfl) rfl rfl (val_ixa rfl Try.underlying25 Try.ty59 rfl rfl (j := a) (rfl) (reach_own (k := 0) rfl hw)) ?_
  refine Gw.chg0 rfl rfl rfl rfl (Eff.mono (eff_storeElA pv rfl Try.ty59 rfl rfl rfl FK_one (k := 0) rfl FK_len hw (l' := [Hp.own FK 3 v (xs.set a pv), R]) rfl) (fun _ _ h => congrArg sep h)) (fun _ => ?_)
  obtain ⟨x2, hx2⟩ := get_of_lt (xs := xs.set a pv) (k := p) (by first | omega | (simp; omega))
  refine Gw.val0 rfl rfl rfl (by kernel_rfl) rfl rfl (val_ixa rfl Try.underlying25 Try.ty59 rfl rfl (j := p) (rfl) (reach_own (k := 0) rfl hx2)) ?_
  refine Gw.done ?_
  refine Gx.norm (l' := [Hp.own FK 3 v (xs.set a pv), R]) rfl ?_
  refine Gx.eff0 rfl rfl (eff_storeElA w0 rfl Try.ty59 rfl rfl rfl FK_one (k := 0) rfl FK_len hx2 (l' := [Hp.own FK 3 v ((xs.set a pv).set p w0), R]) rfl) ?_
  rintro _ _ rfl
  refine Gx.done ?_
  refine Gx.thenN ?_
  refine Gx.seq ?_
  obtain ⟨M, hMe⟩ : ∃ M, M = (xs.set a pv).set p w0 := ⟨_, rfl⟩
  refine Gx.norm (l' := [Hp.own FK 3 v M, R]) (by rw [hMe] <;> rfl) ?_
  have hsh : Sh a b xs M := by rw [hMe]; exact Sh.swap (.refl _) (by omega) (by omega) (by omega) (by omega) hw hp
  have hpv : M[a]? = some pv := by rw [hMe]; exact swap_first hw hp
  have hM := hsh.len
  refine Gx.region ?_
  refine Gx.val rfl rfl rfl (val_move rfl rfl) ?_
  refine Gx.val rfl rfl rfl (val_add rfl rfl rfl (r := ((a + 1 : Nat) : Int)) (w64 (by omega) (by omega))) ?_
  refine Gx.val rfl rfl rfl (val_move rfl rfl) ?_
  refine Gx.val rfl rfl rfl (val_sub rfl rfl rfl (r := ((b - 1 : Nat) : Int)) (w64 (by omega) (by omega))) ?_
  refine Gx.val rfl rfl rfl (val_assign rfl rfl) ?_
  refine Gx.val rfl rfl rfl (val_assign rfl rfl) ?_
  refine Gx.done ?_
  refine Gx.thenN ?_
  refine Gx.meet (ι := Nat) (fun ξ => (a + 1 ≤ ξ) ∧ (ξ ≤ b - 1 + 1) ∧ (a + 1 ≤ ξ) ∧ (All (fun z => kK z < kK pv) (a + 1) ξ M) ∧ ((b - 1 < ξ) ∨ ∃ x, M[ξ]? = some x ∧ (fun z => ¬ kK z < kK pv) x)) (fun ξ => [(0, v), (1, .int .i64 ((a : Nat) : Int)), (4, .func (.func 26) #[] #[]), (12, .int .i64 ((ξ : Nat) : Int)), (13, .int .i64 ((b - 1 : Nat) : Int))]) (fun ξ => [Hp.own FK 3 v M, R]) ?_ ?_
  · refine Gx.block ?_
    refine Gx.loop (ι := Nat) (fun ξ => (a + 1 ≤ ξ) ∧ (ξ ≤ b - 1 + 1) ∧ (a + 1 ≤ ξ) ∧ (All (fun z => kK z < kK pv) (a + 1) ξ M)) (fun ξ => [(0, v), (1, .int .i64 ((a : Nat) : Int)), (4, .func (.func 26) #[] #[]), (12, .int .i64 ((ξ : Nat) : Int)), (13, .int .i64 ((b - 1 : Nat) : Int))]) (fun ξ => [Hp.own FK 3 v M, R]) (fun ξ => b - 1 + 1 - ξ) (a + 1) ⟨by first | omega | (dsimp only; omega), by first | omega | (dsimp only; omega), by first | omega | (dsimp only; omega), fun k z h0 h1 => by first | omega | (dsimp only at h0 h1; omega)⟩ ((.cons rfl (.cons rfl (.cons rfl (.cons rfl (.cons rfl .nil)))))) rfl ?_
    rintro iq ⟨haiiq, hijiq, hiiiq, hloiq⟩
    refine Gx.know (m' := [(0, v), (1, .int .i64 ((a : Nat) : Int)), (4, .func (.func 26) #[] #[]), (12, .int .i64 ((iq : Nat) : Int)), (13, .int .i64 ((b - 1 : Nat) : Int))]) (.cons rfl (.cons rfl (.cons rfl (.cons rfl (.cons rfl .nil))))) (Gx.norm (l' := [Hp.own FK 3 v M, R]) rfl ?_)
    refine Gx.seq ?_
    refine Gx.seq ?_
    refine Gx.regionQ Try.mixed (by kernel_rfl) ?_
    refine Gq.val rfl rfl rfl (val_move rfl rfl) ?_
    refine Gq.val rfl rfl rfl (val_move rfl rfl) ?_
    refine Gq.val rfl rfl rfl (val_leq rfl rfl rfl) ?_
    refine Gq.val rfl rfl rfl (val_move rfl rfl) ?_
    refine Gq.cases (t := 35) rfl (fun h3 => ?_) (fun h3 => ?_)
    · obtain ⟨xiq, hxiq⟩ := get_of_lt (xs := M) (k := iq) (by omega)
      refine Gq.valg rfl rfl rfl rfl rfl (val_move rfl rfl) ?_
      refine Gq.valg rfl rfl rfl rfl rfl (val_move rfl rfl) ?_
      refine Gq.valg rfl rfl rfl rfl rfl (val_move rfl rfl) ?_
      refine Gq.valg rfl rfl rfl rfl rfl (val_ixa rfl Try.underlying25 Try.ty59 rfl rfl (j := iq) (rfl) (reach_own (k := 0) rfl hxiq)) ?_
      refine Gq.valg rfl rfl rfl rfl rfl (Val.cast (val_loadA rfl Try.ty59 rfl rfl rfl (cells_own (k := 0) rfl hxiq)) (v' := .agg #[.int .i64 xiq.1.item, .int .i64 xiq.1.who, .int .i64 xiq.1.n]) rfl) ?_
      refine Gq.valg rfl rfl rfl rfl rfl (val_move rfl rfl) ?_
      refine Gq.valg rfl rfl rfl rfl rfl (val_move rfl rfl) ?_
      refine Gq.valg rfl rfl rfl rfl rfl (val_ixa rfl Try.underlying25 Try.ty59 rfl rfl (j := a) (rfl) (reach_own (k := 0) rfl hpv)) ?_
      refine Gq.valg rfl rfl rfl rfl rfl (Val.cast (val_loadA rfl Try.ty59 rfl rfl rfl (cells_own (k := 0) rfl hpv)) (v' := .agg #[.int .i64 pv.1.item, .int .i64 pv.1.who, .int .i64 pv.1.n]) rfl) ?_
      refine Gq.valg rfl rfl rfl rfl rfl (val_callV (vs := [.agg #[.int .i64 xiq.1.item, .int .i64 xiq.1.who, .int .i64 xiq.1.n], .agg #[.int .i64 pv.1.item, .int .i64 pv.1.who, .int .i64 pv.1.n]]) (fs := []) (cs := []) rfl Try.fn26 rfl rfl (fun w H => dots_any xiq.1 pv.1)) ?_
      refine Gq.valg rfl rfl rfl rfl rfl (Val.cast (val_lss rfl rfl rfl) (v' := .bool (decide (kK xiq < kK pv))) (congrArg Value.bool (decide_eq_decide.2 kK_lt))) ?_
      refine Gq.val rfl rfl rfl (val_pickT rfl rfl rfl) ?_
      refine Gq.done ?_
      refine Gx.thenN ?_
      refine Gx.dec rfl (fun h4 => ?_) (fun h4 => ?_)
      · refine Gx.skip ?_
        refine Gx.thenN ?_
        refine Gx.block ?_
        refine Gx.region ?_
        refine Gx.val rfl rfl rfl (val_move rfl rfl) ?_
        refine Gx.val rfl rfl rfl (val_add rfl rfl rfl (r := ((iq + 1 : Nat) : Int)) (w64 (by omega) (by omega))) ?_
        refine Gx.val rfl rfl rfl (val_assign rfl rfl) ?_
        refine Gx.done ?_
        refine Gx.blkN ?_
        refine Gx.thenN ?_
        exact Gx.round (iq + 1) ⟨by first | omega | (dsimp only; omega), by first | omega | (dsimp only; omega), by first | omega | (dsimp only; omega), hloiq.snoc hxiq (by first | omega | (dsimp only; omega))⟩ (by first | omega | (dsimp only; omega)) ((.cons rfl (.cons rfl (.cons rfl (.cons rfl (.cons rfl .nil)))))) rfl
      refine Gx.exit ?_
      refine Gx.thenE ?_
      refine Gx.thenE ?_
      refine Gx.blkE ?_
      refine Gx.thenN ?_
      exact Gx.fam iq ⟨by first | omega | (dsimp only; omega), by first | omega | (dsimp only; omega), by first | omega | (dsimp only; omega), hloiq, .inr ⟨xiq, hxiq, (by first | omega | (dsimp only; omega))⟩⟩ ((.cons rfl (.cons rfl (.cons rfl (.cons rfl (.cons rfl .nil)))))) rfl
    refine Gq.skipg rfl rfl rfl rfl rfl rfl ?_
    refine Gq.skipg rfl rfl rfl rfl rfl rfl ?_
    refine Gq.skipg rfl rfl rfl rfl rfl rfl ?_
    refine Gq.skipg rfl rfl rfl rfl rfl rfl ?_
    refine Gq.skipg rfl rfl rfl rfl rfl rfl ?_
    refine Gq.skipg rfl rfl rfl rfl rfl rfl ?_
    refine Gq.skipg rfl rfl rfl rfl rfl rfl ?_
    refine Gq.skipg rfl rfl rfl rfl rfl rfl ?_
    refine Gq.skipg rfl rfl rfl rfl rfl rfl ?_
    refine Gq.skipg rfl rfl rfl rfl rfl rfl ?_
    refine Gq.skipg rfl rfl rfl rfl rfl rfl ?_
    refine Gq.val rfl rfl rfl (val_pickF rfl rfl rfl) ?_
    refine Gq.done ?_
    refine Gx.thenN ?_
    refine Gx.f rfl ?_
    refine Gx.exit ?_
    refine Gx.thenE ?_
    refine Gx.thenE ?_
    refine Gx.blkE ?_
    refine Gx.thenN ?_
    exact Gx.fam iq ⟨by first | omega | (dsimp only; omega), by first | omega | (dsimp only; omega), by first | omega | (dsimp only; omega), hloiq, .inl (by omega)⟩ ((.cons rfl (.cons rfl (.cons rfl (.cons rfl (.cons rfl .nil)))))) rfl
  rintro iq ⟨haiiq, hijiq, hiiiq, hloiq, hstiq⟩
  refine Gx.know (m' := [(0, v), (1, .int .i64 ((a : Nat) : Int)), (4, .func (.func 26) #[] #[]), (12, .int .i64 ((iq : Nat) : Int)), (13, .int .i64 ((b - 1 : Nat) : Int))]) (.cons rfl (.cons rfl (.cons rfl (.cons rfl (.cons rfl .nil))))) (Gx.norm (l' := [Hp.own FK 3 v M, R]) rfl ?_)
  refine Gx.meet (ι := Nat) (fun ξ => (ξ + 1 ≤ b) ∧ (iq ≤ ξ + 1) ∧ (ξ ≤ b - 1) ∧ (All (fun z => ¬ kK z < kK pv) (ξ + 1) b M) ∧ ((ξ < iq) ∨ ∃ y, M[ξ]? = some y ∧ (fun z => kK z < kK pv) y)) (fun ξ => [(0, v), (1, .int .i64 ((a : Nat) : Int)), (4, .func (.func 26) #[] #[]), (12, .int .i64 ((iq : Nat) : Int)), (13, .int .i64 ((ξ : Nat) : Int))]) (fun ξ => [Hp.own FK 3 v M, R]) ?_ ?_
  · refine Gx.block ?_
    refine Gx.loop (ι := Nat) (fun ξ => (ξ + 1 ≤ b) ∧ (iq ≤ ξ + 1) ∧ (ξ ≤ b - 1) ∧ (All (fun z => ¬ kK z < kK pv) (ξ + 1) b M)) (fun ξ => [(0, v), (1, .int .i64 ((a : Nat) : Int)), (4, .func (.func 26) #[] #[]), (12, .int .i64 ((iq : Nat) : Int)), (13, .int .i64 ((ξ : Nat) : Int))]) (fun ξ => [Hp.own FK 3 v M, R]) (fun ξ => ξ) (b - 1) ⟨by first | omega | (dsimp only; omega), by first | omega | (dsimp only; omega), by first | omega | (dsimp only; omega), fun k z h0 h1 => by first | omega | (dsimp only at h0 h1; omega)⟩ ((.cons rfl (.cons rfl (.cons rfl (.cons rfl (.cons rfl .nil)))))) rfl ?_
    rintro jq ⟨hjbjq, hijjq, hjjjq, hhijq⟩
    refine Gx.know (m' := [(0, v), (1, .int .i64 ((a : Nat) : Int)), (4, .func (.func 26) #[] #[]), (12, .int .i64 ((iq : Nat) : Int)), (13, .int .i64 ((jq : Nat) : Int))]) (.cons rfl (.cons rfl (.cons rfl (.cons rfl (.cons rfl .nil))))) (Gx.norm (l' := [Hp.own FK 3 v M, R]) rfl ?_)
    refine Gx.seq ?_
    refine Gx.seq ?_
    refine Gx.regionQ Try.mixed (by kernel_rfl) ?_
    refine Gq.val rfl rfl rfl (val_move rfl rfl) ?_
    refine Gq.val rfl rfl rfl (val_move rfl rfl) ?_
    refine Gq.val rfl rfl rfl (val_leq rfl rfl rfl) ?_
    refine Gq.val rfl rfl rfl (val_move rfl rfl) ?_
    refine Gq.cases (t := 53) rfl (fun h5 => ?_) (fun h5 => ?_)
    · obtain ⟨yjq, hyjq⟩ := get_of_lt (xs := M) (k := jq) (by omega)
      refine Gq.valg rfl rfl rfl rfl rfl (val_move rfl rfl) ?_
      refine Gq.valg rfl rfl rfl rfl rfl (val_move rfl rfl) ?_
      refine Gq.valg rfl rfl rfl rfl rfl (val_move rfl rfl) ?_
      refine Gq.valg rfl rfl rfl rfl rfl (val_ixa rfl Try.underlying25 Try.ty59 rfl rfl (j := jq) (rfl) (reach_own (k := 0) rfl hyjq)) ?_
      refine Gq.valg rfl rfl rfl rfl rfl (Val.cast (val_loadA rfl Try.ty59 rfl rfl rfl (cells_own (k := 0) rfl hyjq)) (v' := .agg #[.int .i64 yjq.1.item, .int .i64 yjq.1.who, .int .i64 yjq.1.n]) rfl) ?_
      refine Gq.valg rfl rfl rfl rfl rfl (val_move rfl rfl) ?_
      refine Gq.valg rfl rfl rfl rfl rfl (val_move rfl rfl) ?_
      refine Gq.valg rfl rfl rfl rfl rfl (val_ixa rfl Try.underlying25 Try.ty59 rfl rfl (j := a) (rfl) (reach_own (k := 0) rfl hpv)) ?_
      refine Gq.valg rfl rfl rfl rfl rfl (Val.cast (val_loadA rfl Try.ty59 rfl rfl rfl (cells_own (k := 0) rfl hpv)) (v' := .agg #[.int .i64 pv.1.item, .int .i64 pv.1.who, .int .i64 pv.1.n]) rfl) ?_
      refine Gq.valg rfl rfl rfl rfl rfl (val_callV (vs := [.agg #[.int .i64 yjq.1.item, .int .i64 yjq.1.who, .int .i64 yjq.1.n], .agg #[.int .i64 pv.1.item, .int .i64 pv.1.who, .int .i64 pv.1.n]]) (fs := []) (cs := []) rfl Try.fn26 rfl rfl (fun w H => dots_any yjq.1 pv.1)) ?_
      refine Gq.valg rfl rfl rfl rfl rfl (Val.cast (val_lss rfl rfl rfl) (v' := .bool (decide (kK yjq < kK pv))) (congrArg Value.bool (decide_eq_decide.2 kK_lt))) ?_
      refine Gq.valg rfl rfl rfl rfl rfl (val_notD rfl rfl) ?_
      refine Gq.val rfl rfl rfl (val_pickT rfl rfl rfl) ?_
      refine Gq.done ?_
      refine Gx.thenN ?_
      refine Gx.dec rfl (fun h6 => ?_) (fun h6 => ?_)
      · refine Gx.skip ?_
        refine Gx.thenN ?_
        refine Gx.block ?_
        refine Gx.region ?_
        refine Gx.val rfl rfl rfl (val_move rfl rfl) ?_
        refine Gx.val rfl rfl rfl (val_sub rfl rfl rfl (r := ((jq - 1 : Nat) : Int)) (w64 (by omega) (by omega))) ?_
        refine Gx.val rfl rfl rfl (val_assign rfl rfl) ?_
        refine Gx.done ?_
        refine Gx.blkN ?_
        refine Gx.thenN ?_
        exact Gx.round (jq - 1) ⟨by first | omega | (dsimp only; omega), by first | omega | (dsimp only; omega), by first | omega | (dsimp only; omega), hhijq.cons hyjq (by first | omega | (dsimp only; omega)) (by omega)⟩ (by first | omega | (dsimp only; omega)) ((.cons rfl (.cons rfl (.cons rfl (.cons rfl (.cons rfl .nil)))))) rfl
      refine Gx.exit ?_
      refine Gx.thenE ?_
      refine Gx.thenE ?_
      refine Gx.blkE ?_
      refine Gx.thenN ?_
      exact Gx.fam jq ⟨by first | omega | (dsimp only; omega), by first | omega | (dsimp only; omega), by first | omega | (dsimp only; omega), hhijq, .inr ⟨yjq, hyjq, (by first | omega | (dsimp only; omega))⟩⟩ ((.cons rfl (.cons rfl (.cons rfl (.cons rfl (.cons rfl .nil)))))) rfl
    refine Gq.skipg rfl rfl rfl rfl rfl rfl ?_
    refine Gq.skipg rfl rfl rfl rfl rfl rfl ?_
    refine Gq.skipg rfl rfl rfl rfl rfl rfl ?_
    refine Gq.skipg rfl rfl rfl rfl rfl rfl ?_
    refine Gq.skipg rfl rfl rfl rfl rfl rfl ?_
    refine Gq.skipg rfl rfl rfl rfl rfl rfl ?_
    refine Gq.skipg rfl rfl rfl rfl rfl rfl ?_
    refine Gq.skipg rfl rfl rfl rfl rfl rfl ?_
    refine Gq.skipg rfl rfl rfl rfl rfl rfl ?_
    refine Gq.skipg rfl rfl rfl rfl rfl rfl ?_
    refine Gq.skipg rfl rfl rfl rfl rfl rfl ?_
    refine Gq.skipg rfl rfl rfl rfl rfl rfl ?_
    refine Gq.val rfl rfl rfl (val_pickF rfl rfl rfl) ?_
    refine Gq.done ?_
    refine Gx.thenN ?_
    refine Gx.f rfl ?_
    refine Gx.exit ?_
    refine Gx.thenE ?_
    refine Gx.thenE ?_
    refine Gx.blkE ?_
    refine Gx.thenN ?_
    exact Gx.fam jq ⟨by first | omega | (dsimp only; omega), by first | omega | (dsimp only; omega), by first | omega | (dsimp only; omega), hhijq, .inl (by omega)⟩ ((.cons rfl (.cons rfl (.cons rfl (.cons rfl (.cons rfl .nil)))))) rfl
  rintro jq ⟨hjbjq, hijjq, hjjjq, hhijq, hstjq⟩
  refine Gx.know (m' := [(0, v), (1, .int .i64 ((a : Nat) : Int)), (4, .func (.func 26) #[] #[]), (12, .int .i64 ((iq : Nat) : Int)), (13, .int .i64 ((jq : Nat) : Int))]) (.cons rfl (.cons rfl (.cons rfl (.cons rfl (.cons rfl .nil))))) (Gx.norm (l' := [Hp.own FK 3 v M, R]) rfl ?_)
  refine Gx.seq ?_
  refine Gx.seq ?_
  refine Gx.region ?_
  refine Gx.val rfl rfl rfl (val_move rfl rfl) ?_
  refine Gx.val rfl rfl rfl (val_move rfl rfl) ?_
  refine Gx.val rfl rfl rfl (val_gtr rfl rfl rfl) ?_
  refine Gx.done ?_
  refine Gx.thenN ?_
  refine Gx.dec rfl (fun h7 => ?_) (fun h7 => ?_)
  · refine Gx.seq ?_
    obtain ⟨yjq, hyjq⟩ := get_of_lt (xs := M) (k := jq) (by omega)
    obtain ⟨e1, e2, e3⟩ := part_end (fun k z h0 h1 => hloiq k z h0 (by omega)) hhijq hyjq hpv (by omega)
    have hshe := Sh.swap hsh (by omega) (by omega) (by omega) (by omega) hyjq hpv
    refine Gx.regionO (fun j => j == 13) 15 [0, 1, 2, 3, 4, 5, 6, 7, 8, 9, 10, 11, 12, 13, 14] (fun us => match us with | [] => [Hp.own FK 3 v M, R] | u1 :: _ => [Hp.own FK 3 v (M.set jq pv), R]) Try.mixed (by kernel_rfl) rfl ?_
    refine Gw.val rfl rfl rfl rfl rfl (fun us => val_move rfl rfl) ?_
    refine Gw.val rfl rfl rfl rfl rfl (fun us => val_move rfl rfl) ?_
    refine Gw.val rfl rfl rfl rfl rfl (fun us => val_move rfl rfl) ?_
    refine Gw.val rfl rfl rfl rfl rfl (fun us => val_move rfl rfl) ?_
    refine Gw.val rfl rfl rfl rfl rfl (fun us => val_move rfl rfl) ?_
    refine Gw.val rfl rfl rfl rfl rfl (fun us => val_move rfl rfl) ?_
    refine Gw.val0 rfl rfl rfl (by kernel_rfl) rfl rfl (val_ixa rfl Try.underlying25 Try.ty59 rfl rfl (j := a) (rfl) (reach_own (k := 0) rfl hpv)) ?_
    refine Gw.val0 rfl rfl rfl (by kernel_rfl) rfl rfl (Val.cast (val_loadA rfl Try.ty59 rfl rfl rfl (cells_own (k := 0) rfl hpv)) (v' := .agg #[.int .i64 pv.1.item, .int .i64 pv.1.who, .int .i64 pv.1.n]) rfl) ?_
    refine Gw.val rfl rfl rfl rfl rfl (fun us => val_move rfl rfl) ?_
    refine Gw.val rfl rfl rfl rfl rfl (fun us => val_move rfl rfl) ?_
    obtain ⟨x8, hx8⟩ := get_of_lt (xs := M.set jq pv) (k := jq) (by first | omega | (simp; omega))
    refine Gw.val rfl rfl rfl rfl rfl (fun us => match us with | [] => val_ixa rfl Try.underlying25 Try.ty59 rfl rfl (j := jq) (rfl) (reach_own (k := 0) rfl hyjq) | u1 :: _ => val_ixa rfl Try.underlying25 Try.ty59 rfl rfl (j := jq) (rfl) (reach_own (k := 0) rfl hx8)) ?_
    refine Gw.val0 rfl rfl rfl (by kernel_rfl) rfl rfl (Val.cast (val_loadA rfl Try.ty59 rfl rfl rfl (cells_own (k := 0) rfl hyjq)) (v' := .agg #[.int .i64 yjq.1.item, .int .i64 yjq.1.who, .int .i64 yjq.1.n]) rfl) ?_
    refine Gw.val0 rfl rfl rfl (by kernel_rfl) rfl rfl (val_ixa rfl Try.underlying25 Try.ty59 rfl rfl (j := jq) (rfl) (reach_own (k := 0) rfl hyjq)) ?_
    refine Gw.chg0 rfl rfl rfl rfl (Eff.mono (eff_storeElA pv rfl Try.ty59 rfl rfl rfl FK_one (k := 0) rfl FK_len hyjq (l' := [Hp.own FK 3 v (M.set jq pv), R]) rfl) (fun _ _ h => congrArg sep h)) (fun _ => ?_)
    obtain ⟨x9, hx9⟩ := get_of_lt (xs := M.set jq pv) (k := a) (by first | omega | (simp; omega))
    refine Gw.val0 rfl rfl rfl (by kernel_rfl) rfl rfl (val_ixa rfl Try.underlying25 Try.ty59 rfl rfl (j := a) (rfl) (reach_own (k := 0) rfl hx9)) ?_
    refine Gw.done ?_
    refine Gx.norm (l' := [Hp.own FK 3 v (M.set jq pv), R]) rfl ?_
    refine Gx.eff0 rfl rfl (eff_storeElA yjq rfl Try.ty59 rfl rfl rfl FK_one (k := 0) rfl FK_len hx9 (l' := [Hp.own FK 3 v ((M.set jq pv).set a yjq), R]) rfl) ?_
    rintro _ _ rfl
    refine Gx.done ?_
    refine Gx.thenN ?_
    refine Gx.seq ?_
    refine Gx.region ?_
    refine Gx.val rfl rfl rfl (val_move rfl rfl) ?_
    refine Gx.val rfl rfl rfl (val_assign rfl rfl) ?_
    refine Gx.val rfl rfl rfl (val_assign rfl rfl) ?_
    refine Gx.done ?_
    refine Gx.thenN ?_
    refine Gx.ret ?_
    refine Gx.thenR ?_
    refine Gx.ret2 Try.results57 rfl rfl ?_
    exact ⟨_, _, _, hshe, by omega, by omega, e1, e2, fun k z h0 h1 hz => Int.not_lt.1 (e3 k z h0 h1 hz), rfl, sep1 _ _⟩
  refine Gx.skip ?_
  refine Gx.thenN ?_
  refine Gx.seq ?_
  obtain ⟨xiq, hxiq, hqiq⟩ := hstiq.resolve_left (by omega)
  obtain ⟨yjq, hyjq, hpjq⟩ := hstjq.resolve_left (by omega)
  have hlt : iq < jq := part_lt (P := (fun z => kK z < kK pv)) (Q := (fun z => ¬ kK z < kK pv)) hxiq hyjq hqiq hpjq (fun z h => by first | omega | (dsimp only at *; omega)) (by omega)
  refine Gx.regionO (fun j => j == 13) 15 [0, 1, 2, 3, 4, 5, 6, 7, 8, 9, 10, 11, 12, 13, 14] (fun us => match us with | [] => [Hp.own FK 3 v M, R] | u1 :: _ => [Hp.own FK 3 v (M.set iq yjq), R]) Try.mixed (by kernel_rfl) rfl ?_
  refine Gw.val rfl rfl rfl rfl rfl (fun us => val_move rfl rfl) ?_
  refine Gw.val rfl rfl rfl rfl rfl (fun us => val_move rfl rfl) ?_
  refine Gw.val rfl rfl rfl rfl rfl (fun us => val_move rfl rfl) ?_
  refine Gw.val rfl rfl rfl rfl rfl (fun us => val_move rfl rfl) ?_
  refine Gw.val rfl rfl rfl rfl rfl (fun us => val_move rfl rfl) ?_
  refine Gw.val rfl rfl rfl rfl rfl (fun us => val_move rfl rfl) ?_
  refine Gw.val0 rfl rfl rfl (by kernel_rfl) rfl rfl (val_ixa rfl Try.underlying25 Try.ty59 rfl rfl (j := jq) (rfl) (reach_own (k := 0) rfl hyjq)) ?_
  refine Gw.val0 rfl rfl rfl (by kernel_rfl) rfl rfl (Val.cast (val_loadA rfl Try.ty59 rfl rfl rfl (cells_own (k := 0) rfl hyjq)) (v' := .agg #[.int .i64 yjq.1.item, .int .i64 yjq.1.who, .int .i64 yjq.1.n]) rfl) ?_
  refine Gw.val rfl rfl rfl rfl rfl (fun us => val_move rfl rfl) ?_
  refine Gw.val rfl rfl rfl rfl rfl (fun us => val_move rfl rfl) ?_
  obtain ⟨x10, hx10⟩ := get_of_lt (xs := M.set iq yjq) (k := iq) (by first | omega | (simp; omega))
  refine Gw.val rfl rfl rfl rfl rfl (fun us => match us with | [] => val_ixa rfl Try.underlying25 Try.ty59 rfl rfl (j := iq) (rfl) (reach_own (k := 0) rfl hxiq) | u1 :: _ => val_ixa rfl Try.underlying25 Try.ty59 rfl rfl (j := iq) (rfl) (reach_own (k := 0) rfl hx10)) ?_
  refine Gw.val0 rfl rfl rfl (by kernel_rfl) rfl rfl (Val.cast (val_loadA rfl Try.ty59 rfl rfl rfl (cells_own (k := 0) rfl hxiq)) (v' := .agg #[.int .i64 xiq.1.item, .int .i64 xiq.1.who, .int .i64 xiq.1.n]) rfl) ?_
  refine Gw.val0 rfl rfl rfl (by kernel_rfl) rfl rfl (val_ixa rfl Try.underlying25 Try.ty59 rfl rfl (j := iq) (rfl) (reach_own (k := 0) rfl hxiq)) ?_
  refine Gw.chg0 rfl rfl rfl rfl (Eff.mono (eff_storeElA yjq rfl Try.ty59 rfl rfl rfl FK_one (k := 0) rfl FK_len hxiq (l' := [Hp.own FK 3 v (M.set iq yjq), R]) rfl) (fun _ _ h => congrArg sep h)) (fun _ => ?_)
  obtain ⟨x11, hx11⟩ := get_of_lt (xs := M.set iq yjq) (k := jq) (by first | omega | (simp; omega))
  refine Gw.val0 rfl rfl rfl (by kernel_rfl) rfl rfl (val_ixa rfl Try.underlying25 Try.ty59 rfl rfl (j := jq) (rfl) (reach_own (k := 0) rfl hx11)) ?_
  refine Gw.done ?_
  refine Gx.norm (l' := [Hp.own FK 3 v (M.set iq yjq), R]) rfl ?_
  refine Gx.eff0 rfl rfl (eff_storeElA xiq rfl Try.ty59 rfl rfl rfl FK_one (k := 0) rfl FK_len hx11 (l' := [Hp.own FK 3 v ((M.set iq yjq).set jq xiq), R]) rfl) ?_
  rintro _ _ rfl
  refine Gx.done ?_
  refine Gx.thenN ?_
  refine Gx.seq ?_
  refine Gx.region ?_
  refine Gx.val rfl rfl rfl (val_move rfl rfl) ?_
  refine Gx.val rfl rfl rfl (val_add rfl rfl rfl (r := ((iq + 1 : Nat) : Int)) (w64 (by omega) (by omega))) ?_
  refine Gx.val rfl rfl rfl (val_assign rfl rfl) ?_
  refine Gx.done ?_
  refine Gx.thenN ?_
  refine Gx.seq ?_
  refine Gx.region ?_
  refine Gx.val rfl rfl rfl (val_move rfl rfl) ?_
  refine Gx.val rfl rfl rfl (val_sub rfl rfl rfl (r := ((jq - 1 : Nat) : Int)) (w64 (by omega) (by omega))) ?_
  refine Gx.val rfl rfl rfl (val_assign rfl rfl) ?_
  refine Gx.done ?_
  refine Gx.thenN ?_
  refine Gx.seq ?_
  refine Gx.block ?_
  refine Gx.loop (ι := Nat × Nat × (List Dk)) (fun ξ => (a + 1 ≤ ξ.1) ∧ (ξ.1 ≤ ξ.2.1 + 1) ∧ (ξ.2.1 + 1 ≤ b) ∧ (Sh a b xs ξ.2.2) ∧ (ξ.2.2[a]? = some pv) ∧ (All (fun z => kK z < kK pv) (a + 1) ξ.1 ξ.2.2) ∧ (All (fun z => ¬ kK z < kK pv) (ξ.2.1 + 1) b ξ.2.2)) (fun ξ => [(0, v), (1, .int .i64 ((a : Nat) : Int)), (4, .func (.func 26) #[] #[]), (12, .int .i64 ((ξ.1 : Nat) : Int)), (13, .int .i64 ((ξ.2.1 : Nat) : Int))]) (fun ξ => [Hp.own FK 3 v ξ.2.2, R]) (fun ξ => ξ.2.1 + 1 - ξ.1) (iq + 1, jq - 1, (M.set iq yjq).set jq xiq) ⟨by first | omega | (dsimp only; omega), by first | omega | (dsimp only; omega), by first | omega | (dsimp only; omega), Sh.swap hsh (by omega) (by omega) (by omega) (by omega) hxiq hyjq, part_keep hpv hxiq hyjq (by omega) (by omega), part_lo hloiq hxiq hyjq hpjq hlt, part_hi hhijq hxiq hyjq hqiq hlt⟩ ((.cons rfl (.cons rfl (.cons rfl (.cons rfl (.cons rfl .nil)))))) rfl ?_
  rintro ⟨k, l, M2⟩ ⟨hai, hij, hjb, hsh2, hpv2, hlo, hhi⟩
  dsimp only at hai hij hjb hsh2 hpv2 hlo hhi
  refine Gx.know (m' := [(0, v), (1, .int .i64 ((a : Nat) : Int)), (4, .func (.func 26) #[] #[]), (12, .int .i64 ((k : Nat) : Int)), (13, .int .i64 ((l : Nat) : Int))]) (.cons rfl (.cons rfl (.cons rfl (.cons rfl (.cons rfl .nil))))) (Gx.norm (l' := [Hp.own FK 3 v M2, R]) rfl ?_)
  have hM2 := hsh2.len
  refine Gx.block ?_
  refine Gx.meet (ι := Nat) (fun ξ => (a + 1 ≤ ξ) ∧ (ξ ≤ l + 1) ∧ (k ≤ ξ) ∧ (All (fun z => kK z < kK pv) (a + 1) ξ M2) ∧ ((l < ξ) ∨ ∃ x, M2[ξ]? = some x ∧ (fun z => ¬ kK z < kK pv) x)) (fun ξ => [(0, v), (1, .int .i64 ((a : Nat) : Int)), (4, .func (.func 26) #[] #[]), (12, .int .i64 ((ξ : Nat) : Int)), (13, .int .i64 ((l : Nat) : Int))]) (fun ξ => [Hp.own FK 3 v M2, R]) ?_ ?_
  · refine Gx.block ?_
    refine Gx.loop (ι := Nat) (fun ξ => (a + 1 ≤ ξ) ∧ (ξ ≤ l + 1) ∧ (k ≤ ξ) ∧ (All (fun z => kK z < kK pv) (a + 1) ξ M2)) (fun ξ => [(0, v), (1, .int .i64 ((a : Nat) : Int)), (4, .func (.func 26) #[] #[]), (12, .int .i64 ((ξ : Nat) : Int)), (13, .int .i64 ((l : Nat) : Int))]) (fun ξ => [Hp.own FK 3 v M2, R]) (fun ξ => l + 1 - ξ) k ⟨by first | omega | (dsimp only; omega), by first | omega | (dsimp only; omega), by first | omega | (dsimp only; omega), hlo⟩ ((.cons rfl (.cons rfl (.cons rfl (.cons rfl (.cons rfl .nil)))))) rfl ?_
    rintro kq ⟨haikq, hijkq, hiikq, hlokq⟩
    refine Gx.know (m' := [(0, v), (1, .int .i64 ((a : Nat) : Int)), (4, .func (.func 26) #[] #[]), (12, .int .i64 ((kq : Nat) : Int)), (13, .int .i64 ((l : Nat) : Int))]) (.cons rfl (.cons rfl (.cons rfl (.cons rfl (.cons rfl .nil))))) (Gx.norm (l' := [Hp.own FK 3 v M2, R]) rfl ?_)
    refine Gx.seq ?_
    refine Gx.seq ?_
    refine Gx.regionQ Try.mixed (by kernel_rfl) ?_
    refine Gq.val rfl rfl rfl (val_move rfl rfl) ?_
    refine Gq.val rfl rfl rfl (val_move rfl rfl) ?_
    refine Gq.val rfl rfl rfl (val_leq rfl rfl rfl) ?_
    refine Gq.val rfl rfl rfl (val_move rfl rfl) ?_
    refine Gq.cases (t := 108) rfl (fun h12 => ?_) (fun h12 => ?_)
    · obtain ⟨xkq, hxkq⟩ := get_of_lt (xs := M2) (k := kq) (by omega)
      refine Gq.valg rfl rfl rfl rfl rfl (val_move rfl rfl) ?_
      refine Gq.valg rfl rfl rfl rfl rfl (val_move rfl rfl) ?_
      refine Gq.valg rfl rfl rfl rfl rfl (val_move rfl rfl) ?_
      refine Gq.valg rfl rfl rfl rfl rfl (val_ixa rfl Try.underlying25 Try.ty59 rfl rfl (j := kq) (rfl) (reach_own (k := 0) rfl hxkq)) ?_
      refine Gq.valg rfl rfl rfl rfl rfl (Val.cast (val_loadA rfl Try.ty59 rfl rfl rfl (cells_own (k := 0) rfl hxkq)) (v' := .agg #[.int .i64 xkq.1.item, .int .i64 xkq.1.who, .int .i64 xkq.1.n]) rfl) ?_
      refine Gq.valg rfl rfl rfl rfl rfl (val_move rfl rfl) ?_
      refine Gq.valg rfl rfl rfl rfl rfl (val_move rfl rfl) ?_
      refine Gq.valg rfl rfl rfl rfl rfl (val_ixa rfl Try.underlying25 Try.ty59 rfl rfl (j := a) (rfl) (reach_own (k := 0) rfl hpv2)) ?_
      refine Gq.valg rfl rfl rfl rfl rfl (Val.cast (val_loadA rfl Try.ty59 rfl rfl rfl (cells_own (k := 0) rfl hpv2)) (v' := .agg #[.int .i64 pv.1.item, .int .i64 pv.1.who, .int .i64 pv.1.n]) rfl) ?_
      refine Gq.valg rfl rfl rfl rfl rfl (val_callV (vs := [.agg #[.int .i64 xkq.1.item, .int .i64 xkq.1.who, .int .i64 xkq.1.n], .agg #[.int .i64 pv.1.item, .int .i64 pv.1.who, .int .i64 pv.1.n]]) (fs := []) (cs := []) rfl Try.fn26 rfl rfl (fun w H => dots_any xkq.1 pv.1)) ?_
      refine Gq.valg rfl rfl rfl rfl rfl (Val.cast (val_lss rfl rfl rfl) (v' := .bool (decide (kK xkq < kK pv))) (congrArg Value.bool (decide_eq_decide.2 kK_lt))) ?_
      refine Gq.val rfl rfl rfl (val_pickT rfl rfl rfl) ?_
      refine Gq.done ?_
      refine Gx.thenN ?_
      refine Gx.dec rfl (fun h13 => ?_) (fun h13 => ?_)
      · refine Gx.skip ?_
        refine Gx.thenN ?_
        refine Gx.block ?_
        refine Gx.region ?_
        refine Gx.val rfl rfl rfl (val_move rfl rfl) ?_
        refine Gx.val rfl rfl rfl (val_add rfl rfl rfl (r := ((kq + 1 : Nat) : Int)) (w64 (by omega) (by omega))) ?_
        refine Gx.val rfl rfl rfl (val_assign rfl rfl) ?_
        refine Gx.done ?_
        refine Gx.blkN ?_
        refine Gx.thenN ?_
        exact Gx.round (kq + 1) ⟨by first | omega | (dsimp only; omega), by first | omega | (dsimp only; omega), by first | omega | (dsimp only; omega), hlokq.snoc hxkq (by first | omega | (dsimp only; omega))⟩ (by first | omega | (dsimp only; omega)) ((.cons rfl (.cons rfl (.cons rfl (.cons rfl (.cons rfl .nil)))))) rfl
      refine Gx.exit ?_
      refine Gx.thenE ?_
      refine Gx.thenE ?_
      refine Gx.blkE ?_
      refine Gx.thenN ?_
      exact Gx.fam kq ⟨by first | omega | (dsimp only; omega), by first | omega | (dsimp only; omega), by first | omega | (dsimp only; omega), hlokq, .inr ⟨xkq, hxkq, (by first | omega | (dsimp only; omega))⟩⟩ ((.cons rfl (.cons rfl (.cons rfl (.cons rfl (.cons rfl .nil)))))) rfl
    refine Gq.skipg rfl rfl rfl rfl rfl rfl ?_
    refine Gq.skipg rfl rfl rfl rfl rfl rfl ?_
    refine Gq.skipg rfl rfl rfl rfl rfl rfl ?_
    refine Gq.skipg rfl rfl rfl rfl rfl rfl ?_
    refine Gq.skipg rfl rfl rfl rfl rfl rfl ?_
    refine Gq.skipg rfl rfl rfl rfl rfl rfl ?_
    refine Gq.skipg rfl rfl rfl rfl rfl rfl ?_
    refine Gq.skipg rfl rfl rfl rfl rfl rfl ?_
    refine Gq.skipg rfl rfl rfl rfl rfl rfl ?_
    refine Gq.skipg rfl rfl rfl rfl rfl rfl ?_
    refine Gq.skipg rfl rfl rfl rfl rfl rfl ?_
    refine Gq.val rfl rfl rfl (val_pickF rfl rfl rfl) ?_
    refine Gq.done ?_
    refine Gx.thenN ?_
    refine Gx.f rfl ?_
    refine Gx.exit ?_
    refine Gx.thenE ?_
    refine Gx.thenE ?_
    refine Gx.blkE ?_
    refine Gx.thenN ?_
    exact Gx.fam kq ⟨by first | omega | (dsimp only; omega), by first | omega | (dsimp only; omega), by first | omega | (dsimp only; omega), hlokq, .inl (by omega)⟩ ((.cons rfl (.cons rfl (.cons rfl (.cons rfl (.cons rfl .nil)))))) rfl
  rintro kq ⟨haikq, hijkq, hiikq, hlokq, hstkq⟩
  refine Gx.know (m' := [(0, v), (1, .int .i64 ((a : Nat) : Int)), (4, .func (.func 26) #[] #[]), (12, .int .i64 ((kq : Nat) : Int)), (13, .int .i64 ((l : Nat) : Int))]) (.cons rfl (.cons rfl (.cons rfl (.cons rfl (.cons rfl .nil))))) (Gx.norm (l' := [Hp.own FK 3 v M2, R]) rfl ?_)
  refine Gx.meet (ι := Nat) (fun ξ => (ξ + 1 ≤ b) ∧ (kq ≤ ξ + 1) ∧ (ξ ≤ l) ∧ (All (fun z => ¬ kK z < kK pv) (ξ + 1) b M2) ∧ ((ξ < kq) ∨ ∃ y, M2[ξ]? = some y ∧ (fun z => kK z < kK pv) y)) (fun ξ => [(0, v), (1, .int .i64 ((a : Nat) : Int)), (4, .func (.func 26) #[] #[]), (12, .int .i64 ((kq : Nat) : Int)), (13, .int .i64 ((ξ : Nat) : Int))]) (fun ξ => [Hp.own FK 3 v M2, R]) ?_ ?_
  · refine Gx.block ?_
    refine Gx.loop (ι := Nat) (fun ξ => (ξ + 1 ≤ b) ∧ (kq ≤ ξ + 1) ∧ (ξ ≤ l) ∧ (All (fun z => ¬ kK z < kK pv) (ξ + 1) b M2)) (fun ξ => [(0, v), (1, .int .i64 ((a : Nat) : Int)), (4, .func (.func 26) #[] #[]), (12, .int .i64 ((kq : Nat) : Int)), (13, .int .i64 ((ξ : Nat) : Int))]) (fun ξ => [Hp.own FK 3 v M2, R]) (fun ξ => ξ) l ⟨by first | omega | (dsimp only; omega), by first | omega | (dsimp only; omega), by first | omega | (dsimp only; omega), hhi⟩ ((.cons rfl (.cons rfl (.cons rfl (.cons rfl (.cons rfl .nil)))))) rfl ?_
    rintro lq ⟨hjblq, hijlq, hjjlq, hhilq⟩
    refine Gx.know (m' := [(0, v), (1, .int .i64 ((a : Nat) : Int)), (4, .func (.func 26) #[] #[]), (12, .int .i64 ((kq : Nat) : Int)), (13, .int .i64 ((lq : Nat) : Int))]) (.cons rfl (.cons rfl (.cons rfl (.cons rfl (.cons rfl .nil))))) (Gx.norm (l' := [Hp.own FK 3 v M2, R]) rfl ?_)
    refine Gx.seq ?_
    refine Gx.seq ?_
    refine Gx.regionQ Try.mixed (by kernel_rfl) ?_
    refine Gq.val rfl rfl rfl (val_move rfl rfl) ?_
    refine Gq.val rfl rfl rfl (val_move rfl rfl) ?_
    refine Gq.val rfl rfl rfl (val_leq rfl rfl rfl) ?_
    refine Gq.val rfl rfl rfl (val_move rfl rfl) ?_
    refine Gq.cases (t := 126) rfl (fun h14 => ?_) (fun h14 => ?_)
    · obtain ⟨ylq, hylq⟩ := get_of_lt (xs := M2) (k := lq) (by omega)
      refine Gq.valg rfl rfl rfl rfl rfl (val_move rfl rfl) ?_
      refine Gq.valg rfl rfl rfl rfl rfl (val_move rfl rfl) ?_
      refine Gq.valg rfl rfl rfl rfl rfl (val_move rfl rfl) ?_
      refine Gq.valg rfl rfl rfl rfl rfl (val_ixa rfl Try.underlying25 Try.ty59 rfl rfl (j := lq) (rfl) (reach_own (k := 0) rfl hylq)) ?_
      refine Gq.valg rfl rfl rfl rfl rfl (Val.cast (val_loadA rfl Try.ty59 rfl rfl rfl (cells_own (k := 0) rfl hylq)) (v' := .agg #[.int .i64 ylq.1.item, .int .i64 ylq.1.who, .int .i64 ylq.1.n]) rfl) ?_
      refine Gq.valg rfl rfl rfl rfl rfl (val_move rfl rfl) ?_
      refine Gq.valg rfl rfl rfl rfl rfl (val_move rfl rfl) ?_
      refine Gq.valg rfl rfl rfl rfl rfl (val_ixa rfl Try.underlying25 Try.ty59 rfl rfl (j := a) (rfl) (reach_own (k := 0) rfl hpv2)) ?_
      refine Gq.valg rfl rfl rfl rfl rfl (Val.cast (val_loadA rfl Try.ty59 rfl rfl rfl (cells_own (k := 0) rfl hpv2)) (v' := .agg #[.int .i64 pv.1.item, .int .i64 pv.1.who, .int .i64 pv.1.n]) rfl) ?_
      refine Gq.valg rfl rfl rfl rfl rfl (val_callV (vs := [.agg #[.int .i64 ylq.1.item, .int .i64 ylq.1.who, .int .i64 ylq.1.n], .agg #[.int .i64 pv.1.item, .int .i64 pv.1.who, .int .i64 pv.1.n]]) (fs := []) (cs := []) rfl Try.fn26 rfl rfl (fun w H => dots_any ylq.1 pv.1)) ?_
      refine Gq.valg rfl rfl rfl rfl rfl (Val.cast (val_lss rfl rfl rfl) (v' := .bool (decide (kK ylq < kK pv))) (congrArg Value.bool (decide_eq_decide.2 kK_lt))) ?_
      refine Gq.valg rfl rfl rfl rfl rfl (val_notD rfl rfl) ?_
      refine Gq.val rfl rfl rfl (val_pickT rfl rfl rfl) ?_
      refine Gq.done ?_
      refine Gx.thenN ?_
      refine Gx.dec rfl (fun h15 => ?_) (fun h15 => ?_)
      · refine Gx.skip ?_
        refine Gx.thenN ?_
        refine Gx.block ?_
        refine Gx.region ?_
        refine Gx.val rfl rfl rfl (val_move rfl rfl) ?_
        refine Gx.val rfl rfl rfl (val_sub rfl rfl rfl (r := ((lq - 1 : Nat) : Int)) (w64 (by omega) (by omega))) ?_
        refine Gx.val rfl rfl rfl (val_assign rfl rfl) ?_
        refine Gx.done ?_
        refine Gx.blkN ?_
        refine Gx.thenN ?_
        exact Gx.round (lq - 1) ⟨by first | omega | (dsimp only; omega), by first | omega | (dsimp only; omega), by first | omega | (dsimp only; omega), hhilq.cons hylq (by first | omega | (dsimp only; omega)) (by omega)⟩ (by first | omega | (dsimp only; omega)) ((.cons rfl (.cons rfl (.cons rfl (.cons rfl (.cons rfl .nil)))))) rfl
      refine Gx.exit ?_
      refine Gx.thenE ?_
      refine Gx.thenE ?_
      refine Gx.blkE ?_
      refine Gx.thenN ?_
      exact Gx.fam lq ⟨by first | omega | (dsimp only; omega), by first | omega | (dsimp only; omega), by first | omega | (dsimp only; omega), hhilq, .inr ⟨ylq, hylq, (by first | omega | (dsimp only; omega))⟩⟩ ((.cons rfl (.cons rfl (.cons rfl (.cons rfl (.cons rfl .nil)))))) rfl
    refine Gq.skipg rfl rfl rfl rfl rfl rfl ?_
    refine Gq.skipg rfl rfl rfl rfl rfl rfl ?_
    refine Gq.skipg rfl rfl rfl rfl rfl rfl ?_
    refine Gq.skipg rfl rfl rfl rfl rfl rfl ?_
    refine Gq.skipg rfl rfl rfl rfl rfl rfl ?_
    refine Gq.skipg rfl rfl rfl rfl rfl rfl ?_
    refine Gq.skipg rfl rfl rfl rfl rfl rfl ?_
    refine Gq.skipg rfl rfl rfl rfl rfl rfl ?_
    refine Gq.skipg rfl rfl rfl rfl rfl rfl ?_
    refine Gq.skipg rfl rfl rfl rfl rfl rfl ?_
    refine Gq.skipg rfl rfl rfl rfl rfl rfl ?_
    refine Gq.skipg rfl rfl rfl rfl rfl rfl ?_
    refine Gq.val rfl rfl rfl (val_pickF rfl rfl rfl) ?_
    refine Gq.done ?_
    refine Gx.thenN ?_
    refine Gx.f rfl ?_
    refine Gx.exit ?_
    refine Gx.thenE ?_
    refine Gx.thenE ?_
    refine Gx.blkE ?_
    refine Gx.thenN ?_
    exact Gx.fam lq ⟨by first | omega | (dsimp only; omega), by first | omega | (dsimp only; omega), by first | omega | (dsimp only; omega), hhilq, .inl (by omega)⟩ ((.cons rfl (.cons rfl (.cons rfl (.cons rfl (.cons rfl .nil)))))) rfl
  rintro lq ⟨hjblq, hijlq, hjjlq, hhilq, hstlq⟩
  refine Gx.know (m' := [(0, v), (1, .int .i64 ((a : Nat) : Int)), (4, .func (.func 26) #[] #[]), (12, .int .i64 ((kq : Nat) : Int)), (13, .int .i64 ((lq : Nat) : Int))]) (.cons rfl (.cons rfl (.cons rfl (.cons rfl (.cons rfl .nil))))) (Gx.norm (l' := [Hp.own FK 3 v M2, R]) rfl ?_)
  refine Gx.seq ?_
  refine Gx.seq ?_
  refine Gx.region ?_
  refine Gx.val rfl rfl rfl (val_move rfl rfl) ?_
  refine Gx.val rfl rfl rfl (val_move rfl rfl) ?_
  refine Gx.val rfl rfl rfl (val_gtr rfl rfl rfl) ?_
  refine Gx.done ?_
  refine Gx.thenN ?_
  refine Gx.dec rfl (fun h16 => ?_) (fun h16 => ?_)
  · refine Gx.exit ?_
    refine Gx.thenE ?_
    refine Gx.blkO rfl ?_
    refine Gx.thenE ?_
    refine Gx.blkE ?_
    refine Gx.thenN ?_
    refine Gx.seq ?_
    obtain ⟨ylq, hylq⟩ := get_of_lt (xs := M2) (k := lq) (by omega)
    obtain ⟨e1, e2, e3⟩ := part_end (fun k z h0 h1 => hlokq k z h0 (by omega)) hhilq hylq hpv2 (by omega)
    have hshe := Sh.swap hsh2 (by omega) (by omega) (by omega) (by omega) hylq hpv2
    refine Gx.regionO (fun j => j == 13) 15 [0, 1, 2, 3, 4, 5, 6, 7, 8, 9, 10, 11, 12, 13, 14] (fun us => match us with | [] => [Hp.own FK 3 v M2, R] | u1 :: _ => [Hp.own FK 3 v (M2.set lq pv), R]) Try.mixed (by kernel_rfl) rfl ?_
    refine Gw.val rfl rfl rfl rfl rfl (fun us => val_move rfl rfl) ?_
    refine Gw.val rfl rfl rfl rfl rfl (fun us => val_move rfl rfl) ?_
    refine Gw.val rfl rfl rfl rfl rfl (fun us => val_move rfl rfl) ?_
    refine Gw.val rfl rfl rfl rfl rfl (fun us => val_move rfl rfl) ?_
    refine Gw.val rfl rfl rfl rfl rfl (fun us => val_move rfl rfl) ?_
    refine Gw.val rfl rfl rfl rfl rfl (fun us => val_move rfl rfl) ?_
    refine Gw.val0 rfl rfl rfl (by kernel_rfl) rfl rfl (val_ixa rfl Try.underlying25 Try.ty59 rfl rfl (j := a) (rfl) (reach_own (k := 0) rfl hpv2)) ?_
    refine Gw.val0 rfl rfl rfl (by kernel_rfl) rfl rfl (Val.cast (val_loadA rfl Try.ty59 rfl rfl rfl (cells_own (k := 0) rfl hpv2)) (v' := .agg #[.int .i64 pv.1.item, .int .i64 pv.1.who, .int .i64 pv.1.n]) rfl) ?_
    refine Gw.val rfl rfl rfl rfl rfl (fun us => val_move rfl rfl) ?_
    refine Gw.val rfl rfl rfl rfl rfl (fun us => val_move rfl rfl) ?_
    obtain ⟨x17, hx17⟩ := get_of_lt (xs := M2.set lq pv) (k := lq) (by first | omega | (simp; omega))
    refine Gw.val rfl rfl rfl rfl rfl (fun us => match us with | [] => val_ixa rfl Try.underlying25 Try.ty59 rfl rfl (j := lq) (rfl) (reach_own (k := 0) rfl hylq) | u1 :: _ => val_ixa rfl Try.underlying25 Try.ty59 rfl rfl (j := lq) (rfl) (reach_own (k := 0) rfl hx17)) ?_
    refine Gw.val0 rfl rfl rfl (by kernel_rfl) rfl rfl (Val.cast (val_loadA rfl Try.ty59 rfl rfl rfl (cells_own (k := 0) rfl hylq)) (v' := .agg #[.int .i64 ylq.1.item, .int .i64 ylq.1.who, .int .i64 ylq.1.n]) rfl) ?_
    refine Gw.val0 rfl rfl rfl (by kernel_rfl) rfl rfl (val_ixa rfl Try.underlying25 Try.ty59 rfl rfl (j := lq) (rfl) (reach_own (k := 0) rfl hylq)) ?_
    refine Gw.chg0 rfl rfl rfl rfl (Eff.mono (eff_storeElA pv rfl Try.ty59 rfl rfl rfl FK_one (k := 0) rfl FK_len hylq (l' := [Hp.own FK 3 v (M2.set lq pv), R]) rfl) (fun _ _ h => congrArg sep h)) (fun _ => ?_)
    obtain ⟨x18, hx18⟩ := get_of_lt (xs := M2.set lq pv) (k := a) (by first | omega | (simp; omega))
    refine Gw.val0 rfl rfl rfl (by kernel_rfl) rfl rfl (val_ixa rfl Try.underlying25 Try.ty59 rfl rfl (j := a) (rfl) (reach_own (k := 0) rfl hx18)) ?_
    refine Gw.done ?_
    refine Gx.norm (l' := [Hp.own FK 3 v (M2.set lq pv), R]) rfl ?_
    refine Gx.eff0 rfl rfl (eff_storeElA ylq rfl Try.ty59 rfl rfl rfl FK_one (k := 0) rfl FK_len hx18 (l' := [Hp.own FK 3 v ((M2.set lq pv).set a ylq), R]) rfl) ?_
    rintro _ _ rfl
    refine Gx.done ?_
    refine Gx.thenN ?_
    refine Gx.seq ?_
    refine Gx.region ?_
    refine Gx.val rfl rfl rfl (val_move rfl rfl) ?_
    refine Gx.val rfl rfl rfl (val_assign rfl rfl) ?_
    refine Gx.val rfl rfl rfl (val_assign rfl rfl) ?_
    refine Gx.done ?_
    refine Gx.thenN ?_
    refine Gx.ret ?_
    refine Gx.ret2 Try.results57 rfl rfl ?_
    exact ⟨_, _, _, hshe, by omega, by omega, e1, e2, fun k z h0 h1 hz => Int.not_lt.1 (e3 k z h0 h1 hz), rfl, sep1 _ _⟩
  refine Gx.skip ?_
  refine Gx.thenN ?_
  refine Gx.seq ?_
  obtain ⟨xkq, hxkq, hqkq⟩ := hstkq.resolve_left (by omega)
  obtain ⟨ylq, hylq, hplq⟩ := hstlq.resolve_left (by omega)
  have hlt : kq < lq := part_lt (P := (fun z => kK z < kK pv)) (Q := (fun z => ¬ kK z < kK pv)) hxkq hylq hqkq hplq (fun z h => by first | omega | (dsimp only at *; omega)) (by omega)
  refine Gx.regionO (fun j => j == 13) 15 [0, 1, 2, 3, 4, 5, 6, 7, 8, 9, 10, 11, 12, 13, 14] (fun us => match us with | [] => [Hp.own FK 3 v M2, R] | u1 :: _ => [Hp.own FK 3 v (M2.set kq ylq), R]) Try.mixed (by kernel_rfl) rfl ?_
  refine Gw.val rfl rfl rfl rfl rfl (fun us => val_move rfl rfl) ?_
  refine Gw.val rfl rfl rfl rfl rfl (fun us => val_move rfl rfl) ?_
  refine Gw.val rfl rfl rfl rfl rfl (fun us => val_move rfl rfl) ?_
  refine Gw.val rfl rfl rfl rfl rfl (fun us => val_move rfl rfl) ?_
  refine Gw.val rfl rfl rfl rfl rfl (fun us => val_move rfl rfl) ?_
  refine Gw.val rfl rfl rfl rfl rfl (fun us => val_move rfl rfl) ?_
  refine Gw.val0 rfl rfl rfl (by kernel_rfl) rfl rfl (val_ixa rfl Try.underlying25 Try.ty59 rfl rfl (j := lq) (rfl) (reach_own (k := 0) rfl hylq)) ?_
  refine Gw.val0 rfl rfl rfl (by kernel_rfl) rfl rfl (Val.cast (val_loadA rfl Try.ty59 rfl rfl rfl (cells_own (k := 0) rfl hylq)) (v' := .agg #[.int .i64 ylq.1.item, .int .i64 ylq.1.who, .int .i64 ylq.1.n]) rfl) ?_
  refine Gw.val rfl rfl rfl rfl rfl (fun us => val_move rfl rfl) ?_
  refine Gw.val rfl rfl rfl rfl rfl (fun us => val_move rfl rfl) ?_
  obtain ⟨x19, hx19⟩ := get_of_lt (xs := M2.set kq ylq) (k := kq) (by first | omega | (simp; omega))
  refine Gw.val rfl rfl rfl rfl rfl (fun us => match us with | [] => val_ixa rfl Try.underlying25 Try.ty59 rfl rfl (j := kq) (rfl) (reach_own (k := 0) rfl hxkq) | u1 :: _ => val_ixa rfl Try.underlying25 Try.ty59 rfl rfl (j := kq) (rfl) (reach_own (k := 0) rfl hx19)) ?_
  refine Gw.val0 rfl rfl rfl (by kernel_rfl) rfl rfl (Val.cast (val_loadA rfl Try.ty59 rfl rfl rfl (cells_own (k := 0) rfl hxkq)) (v' := .agg #[.int .i64 xkq.1.item, .int .i64 xkq.1.who, .int .i64 xkq.1.n]) rfl) ?_
  refine Gw.val0 rfl rfl rfl (by kernel_rfl) rfl rfl (val_ixa rfl Try.underlying25 Try.ty59 rfl rfl (j := kq) (rfl) (reach_own (k := 0) rfl hxkq)) ?_
  refine Gw.chg0 rfl rfl rfl rfl (Eff.mono (eff_storeElA ylq rfl Try.ty59 rfl rfl rfl FK_one (k := 0) rfl FK_len hxkq (l' := [Hp.own FK 3 v (M2.set kq ylq), R]) rfl) (fun _ _ h => congrArg sep h)) (fun _ => ?_)
  obtain ⟨x20, hx20⟩ := get_of_lt (xs := M2.set kq ylq) (k := lq) (by first | omega | (simp; omega))
  refine Gw.val0 rfl rfl rfl (by kernel_rfl) rfl rfl (val_ixa rfl Try.underlying25 Try.ty59 rfl rfl (j := lq) (rfl) (reach_own (k := 0) rfl hx20)) ?_
  refine Gw.done ?_
  refine Gx.norm (l' := [Hp.own FK 3 v (M2.set kq ylq), R]) rfl ?_
  refine Gx.eff0 rfl rfl (eff_storeElA xkq rfl Try.ty59 rfl rfl rfl FK_one (k := 0) rfl FK_len hx20 (l' := [Hp.own FK 3 v ((M2.set kq ylq).set lq xkq), R]) rfl) ?_
  rintro _ _ rfl
  refine Gx.done ?_
  refine Gx.thenN ?_
  refine Gx.seq ?_
  refine Gx.region ?_
  refine Gx.val rfl rfl rfl (val_move rfl rfl) ?_
  refine Gx.val rfl rfl rfl (val_add rfl rfl rfl (r := ((kq + 1 : Nat) : Int)) (w64 (by omega) (by omega))) ?_
  refine Gx.val rfl rfl rfl (val_assign rfl rfl) ?_
  refine Gx.done ?_
  refine Gx.thenN ?_
  refine Gx.region ?_
  refine Gx.val rfl rfl rfl (val_move rfl rfl) ?_
  refine Gx.val rfl rfl rfl (val_sub rfl rfl rfl (r := ((lq - 1 : Nat) : Int)) (w64 (by omega) (by omega))) ?_
  refine Gx.val rfl rfl rfl (val_assign rfl rfl) ?_
  refine Gx.done ?_
  refine Gx.blkN ?_
  refine Gx.thenN ?_
  exact Gx.round (kq + 1, lq - 1, (M2.set kq ylq).set lq xkq) ⟨by first | omega | (dsimp only; omega), by first | omega | (dsimp only; omega), by first | omega | (dsimp only; omega), Sh.swap hsh2 (by omega) (by omega) (by omega) (by omega) hxkq hylq, part_keep hpv2 hxkq hylq (by omega) (by omega), part_lo hlokq hxkq hylq hplq hlt, part_hi hhilq hxkq hylq hqkq hlt⟩ (by first | omega | (dsimp only; omega)) ((.cons rfl (.cons rfl (.cons rfl (.cons rfl (.cons rfl .nil)))))) rfl

end Go.Proofs.Ytfpkfbffpkjgbaa
