/- The library's sort: parting in two. The walks. No condition. -/
import Derived.Test.YtpjkpnfelpfhaaaS22
namespace Go.Proofs.Ytpjkpnfelpfhaaa
open Go.RowKit
set_option linter.unusedVariables false
set_option linter.unusedSimpArgs false
set_option maxRecDepth 100000

section
variable {P Q : Nat → Prop} {M : List Nat} {a b i j x y : Nat}
theorem All.snoc (h : All P a i M) (hx : M[i]? = some x) (hp : P x) : All P a (i + 1) M := fun k z h0 h1 hz => by
  by_cases e : k = i
  · subst e; rw [hx] at hz; cases hz; exact hp
  · exact h k z h0 (by omega) hz
theorem All.cons (h : All P (j + 1) b M) (hy : M[j]? = some y) (hp : P y) (hj : 1 ≤ j) : All P (j - 1 + 1) b M := fun k z h0 h1 hz => by
  by_cases e : k = j
  · subst e; rw [hy] at hz; cases hz; exact hp
  · exact h k z (by omega) h1 hz
theorem swap_first {xs : List Nat} {p w z : Nat} (hw : xs[a]? = some w) (hz : xs[p]? = some z) : ((xs.set a z).set p w)[a]? = some z := by
  rw [swap_at hw hz]
  split
  · rename_i e; subst e; rw [hw] at hz; exact hz
  · rw [if_pos rfl]
theorem part_lt (hi : M[i]? = some x) (hj : M[j]? = some y) (hx : Q x) (hy : P y) (hpq : ∀ z, P z → ¬ Q z) (hij : i ≤ j) : i < j := by
  rcases Nat.lt_or_ge i j with q | q
  · exact q
  · obtain rfl : i = j := by omega
    rw [hi] at hj; cases hj
    exact absurd hx (hpq _ hy)
theorem part_lo (hlo : All P (a + 1) i M) (hi : M[i]? = some x) (hj : M[j]? = some y) (hy : P y) (hij : i < j) : All P (a + 1) (i + 1) ((M.set i y).set j x) := fun k z h0 h1 hz => by
  rw [swap_at hi hj, if_neg (by omega)] at hz
  split at hz
  · cases hz; exact hy
  · exact hlo k z h0 (by omega) hz
theorem part_hi (hhi : All Q (j + 1) b M) (hi : M[i]? = some x) (hj : M[j]? = some y) (hx : Q x) (hij : i < j) : All Q (j - 1 + 1) b ((M.set i y).set j x) := fun k z h0 h1 hz => by
  rw [swap_at hi hj] at hz
  split at hz
  · cases hz; exact hx
  · rw [if_neg (by omega)] at hz
    exact hhi k z (by omega) h1 hz
theorem part_keep {pv : Nat} (hpv : M[a]? = some pv) (hi : M[i]? = some x) (hj : M[j]? = some y) (h1 : a < i) (h2 : a < j) : ((M.set i y).set j x)[a]? = some pv := by rw [swap_at hi hj, if_neg (by omega), if_neg (by omega)]; exact hpv
theorem part_end {pv : Nat} (hlo : All P (a + 1) (j + 1) M) (hhi : All Q (j + 1) b M) (hj : M[j]? = some y) (hpv : M[a]? = some pv) (ha : a ≤ j) :
    ((M.set j pv).set a y)[j]? = some pv ∧ All P a j ((M.set j pv).set a y) ∧ All Q (j + 1) b ((M.set j pv).set a y) := by
  have hat := swap_at hj hpv
  refine ⟨?_, fun k z h0 h1 hz => ?_, fun k z h0 h1 hz => ?_⟩
  · rw [hat]
    split
    · rename_i e; subst e; rw [hj] at hpv; exact hpv
    · rw [if_pos rfl]
  · rw [hat] at hz
    split at hz
    · rename_i e; subst e; cases hz
      exact hlo j y (by omega) (by omega) hj
    · rw [if_neg (by omega)] at hz
      exact hlo k z (by omega) (by omega) hz
  · rw [hat, if_neg (by omega), if_neg (by omega)] at hz
    exact hhi k z h0 h1 hz
end
set_option maxHeartbeats 2000000 in
theorem parteq_any {W w : World} {v : Value} {xs : List Nat} {R : Hp} {a b p pv : Nat} (hap : a ≤ p) (hpb : p < b) (hb : b ≤ xs.length) (hl : xs.length ≤ 65000) (hp : xs[p]? = some pv) (H : Sat W w (Hp.own FU 1 v xs * R)) :
    Calls Try.prog 48 #[v, .int .i64 ((a : Nat) : Int), .int .i64 ((b : Nat) : Int), .int .i64 ((p : Nat) : Int)] w (Ret W fun u l => ∃ ys mid, Sh a b xs ys ∧ a + 1 ≤ mid ∧ mid ≤ b ∧ All (fun z => ¬ pv < z) a mid ys ∧ All (fun z => pv < z) mid b ys ∧ u = .int .i64 ((mid : Nat) : Int) ∧ sep l = Hp.own FU 1 v ys * R) := by
  refine Gx.enter (l := [Hp.own FU 1 v xs, R]) Try.func48 rfl Try.ntmps48 rfl (H.frame1) ?_
  refine Gx.know (m' := [(0, v), (1, .int .i64 ((a : Nat) : Int)), (2, .int .i64 ((b : Nat) : Int)), (3, .int .i64 ((p : Nat) : Int))]) (.cons rfl (.cons rfl (.cons rfl (.cons rfl .nil)))) ?_
  refine Gx.seq ?_
  refine Gx.region ?_
  refine Gx.val rfl rfl rfl (val_assign rfl rfl) ?_
  refine Gx.done ?_
  refine Gx.thenN ?_
  refine Gx.seq ?_
  obtain ⟨w0, hw⟩ := get_of_lt (xs := xs) (k := a) (by omega)
  refine Gx.regionO (fun j => j == 13) 15 [0, 1, 2, 3, 4, 5, 6, 7, 8, 9, 10, 11, 12, 13, 14] (fun us => match us with | [] => [Hp.own FU 1 v xs, R] | u1 :: _ => [Hp.own FU 1 v (xs.set a pv), R]) Try.mixed (by kernel_rfl) rfl ?_
  refine Gw.val rfl rfl rfl rfl rfl (fun us => val_move rfl rfl) ?_
  refine Gw.val rfl rfl rfl rfl rfl (fun us => val_move rfl rfl) ?_
  refine Gw.val rfl rfl rfl rfl rfl (fun us => val_move rfl rfl) ?_
  refine Gw.val rfl rfl rfl rfl rfl (fun us => val_move rfl rfl) ?_
  refine Gw.val rfl rfl rfl rfl rfl (fun us => val_move rfl rfl) ?_
  refine Gw.val rfl rfl rfl rfl rfl (fun us => val_move rfl rfl) ?_
  refine Gw.val0 rfl rfl rfl (by kernel_rfl) rfl rfl (val_ixa rfl Try.underlying22 Try.ty28 rfl rfl (j := p) (rfl) (reach_own (k := 0) rfl hp)) ?_
  refine Gw.val0 rfl rfl rfl (by kernel_rfl) rfl rfl (val_load rfl Try.ty28 rfl rfl (cell_own (i := 0) (k := 0) rfl hp rfl)) ?_
  refine Gw.val rfl rfl rfl rfl rfl (fun us => val_move rfl rfl) ?_
  refine Gw.val rfl rfl rfl rfl rfl (fun us => val_move rfl rfl) ?_
  obtain ⟨x1, hx1⟩ := get_of_lt (xs := xs.set a pv) (k := a) (by first | omega | (simp; omega))
  refine Gw.val rfl rfl rfl rfl rfl (fun us => match us with | [] => val_ixa rfl Try.underlying22 Try.ty28 rfl rfl (j := a) (rfl) (reach_own (k := 0) rfl hw) | u1 :: _ => val_ixa rfl Try.underlying22 Try.ty28 rfl rfl (j := a) (rfl) (reach_own (k := 0) rfl hx1)) ?_
  refine Gw.val0 rfl rfl rfl (by kernel_rfl) rfl rfl (val_load rfl Try.ty28 rfl rfl (cell_own (i := 0) (k := 0) rfl hw rfl)) ?_
  refine Gw.val0 rfl rfl rfl (by kernel_rfl) rfl rfl (val_ixa rfl Try.underlying22 Try.ty28 rfl rfl (j := a) (rfl) (reach_own (k := 0) rfl hw)) ?_
  refine Gw.chg0 rfl rfl rfl rfl (Eff.mono (eff_storeElA pv rfl Try.ty28 rfl rfl rfl FU_one (k := 0) rfl FU_len hw (l' := [Hp.own FU 1 v (xs.set a pv), R]) rfl) (fun _ _ h => congrArg sep h)) (fun _ => ?_)
  obtain ⟨x2, hx2⟩ := get_of_lt (xs := xs.set a pv) (k := p) (by first | omega | (simp; omega))
  refine Gw.val0 rfl rfl rfl (by kernel_rfl) rfl rfl (val_ixa rfl Try.underlying22 Try.ty28 rfl rfl (j := p) (rfl) (reach_own (k := 0) rfl hx2)) ?_
  refine Gw.done ?_
  refine Gx.norm (l' := [Hp.own FU 1 v (xs.set a pv), R]) rfl ?_
  refine Gx.eff0 rfl rfl (eff_storeElA w0 rfl Try.ty28 rfl rfl rfl FU_one (k := 0) rfl FU_len hx2 (l' := [Hp.own FU 1 v ((xs.set a pv).set p w0), R]) rfl) ?_
  rintro _ _ rfl
  refine Gx.done ?_
  refine Gx.thenN ?_
  refine Gx.seq ?_
  obtain ⟨M, hMe⟩ : ∃ M, M = (xs.set a pv).set p w0 := ⟨_, rfl⟩
  refine Gx.norm (l' := [Hp.own FU 1 v M, R]) (by rw [hMe] <;> rfl) ?_
  have hsh : Sh a b xs M := by rw [hMe]; exact Sh.swap (.refl _) (by omega) (by omega) (by omega) (by omega) hw hp
  have hpv : M[a]? = some pv := by rw [hMe]; exact swap_first hw hp
  have hM := hsh.len
  refine Gx.region ?_
  refine Gx.val rfl rfl rfl (val_move rfl rfl) ?_
  refine Gx.val rfl rfl rfl (val_add rfl rfl rfl (r := ((a + 1 : Nat) : Int)) (w64 (by omega) (by omega))) ?_
  refine Gx.val rfl rfl rfl (val_move rfl rfl) ?_
  refine Gx.val rfl rfl rfl (val_sub rfl rfl rfl (r := ((b - 1 : Nat) : Int)) (w64 (by omega) (by omega))) ?_
  refine Gx.val rfl rfl rfl (val_assign rfl rfl) ?_
  refine Gx.val rfl rfl rfl (val_assign rfl rfl) ?_
  refine Gx.done ?_
  refine Gx.thenN ?_
  refine Gx.seq ?_
  refine Gx.block ?_
  refine Gx.loop (ι := Nat × Nat × (List Nat)) (fun ξ => (a + 1 ≤ ξ.1) ∧ (ξ.1 ≤ ξ.2.1 + 1) ∧ (ξ.2.1 + 1 ≤ b) ∧ (Sh a b xs ξ.2.2) ∧ (ξ.2.2[a]? = some pv) ∧ (All (fun z => ¬ pv < z) (a + 1) ξ.1 ξ.2.2) ∧ (All (fun z => pv < z) (ξ.2.1 + 1) b ξ.2.2)) (fun ξ => [(0, v), (1, .int .i64 ((a : Nat) : Int)), (9, .int .i64 ((ξ.1 : Nat) : Int)), (10, .int .i64 ((ξ.2.1 : Nat) : Int))]) (fun ξ => [Hp.own FU 1 v ξ.2.2, R]) (fun ξ => ξ.2.1 + 1 - ξ.1) (a + 1, b - 1, M) ⟨by first | omega | (dsimp only; omega), by first | omega | (dsimp only; omega), by first | omega | (dsimp only; omega), hsh, hpv, fun k z h0 h1 => by first | omega | (dsimp only at h0 h1; omega), fun k z h0 h1 => by first | omega | (dsimp only at h0 h1; omega)⟩ ((.cons rfl (.cons rfl (.cons rfl (.cons rfl .nil))))) rfl ?_
  rintro ⟨i, j, M2⟩ ⟨hai, hij, hjb, hsh2, hpv2, hlo, hhi⟩
  dsimp only at hai hij hjb hsh2 hpv2 hlo hhi
  refine Gx.know (m' := [(0, v), (1, .int .i64 ((a : Nat) : Int)), (9, .int .i64 ((i : Nat) : Int)), (10, .int .i64 ((j : Nat) : Int))]) (.cons rfl (.cons rfl (.cons rfl (.cons rfl .nil)))) (Gx.norm (l' := [Hp.own FU 1 v M2, R]) rfl ?_)
  have hM2 := hsh2.len
  refine Gx.block ?_
  refine Gx.seq ?_
  refine Gx.block ?_
  refine Gx.loop (ι := Nat) (fun ξ => (a + 1 ≤ ξ) ∧ (ξ ≤ j + 1) ∧ (i ≤ ξ) ∧ (All (fun z => ¬ pv < z) (a + 1) ξ M2)) (fun ξ => [(0, v), (1, .int .i64 ((a : Nat) : Int)), (9, .int .i64 ((ξ : Nat) : Int)), (10, .int .i64 ((j : Nat) : Int))]) (fun ξ => [Hp.own FU 1 v M2, R]) (fun ξ => j + 1 - ξ) i ⟨by first | omega | (dsimp only; omega), by first | omega | (dsimp only; omega), by first | omega | (dsimp only; omega), hlo⟩ ((.cons rfl (.cons rfl (.cons rfl (.cons rfl .nil))))) rfl ?_
  rintro iq ⟨haiiq, hijiq, hiiiq, hloiq⟩
  refine Gx.know (m' := [(0, v), (1, .int .i64 ((a : Nat) : Int)), (9, .int .i64 ((iq : Nat) : Int)), (10, .int .i64 ((j : Nat) : Int))]) (.cons rfl (.cons rfl (.cons rfl (.cons rfl .nil)))) (Gx.norm (l' := [Hp.own FU 1 v M2, R]) rfl ?_)
  refine Gx.seq ?_
  refine Gx.seq ?_
  refine Gx.regionQ Try.mixed (by kernel_rfl) ?_
  refine Gq.val rfl rfl rfl (val_move rfl rfl) ?_
  refine Gq.val rfl rfl rfl (val_move rfl rfl) ?_
  refine Gq.val rfl rfl rfl (val_leq rfl rfl rfl) ?_
  refine Gq.val rfl rfl rfl (val_move rfl rfl) ?_
  refine Gq.cases (t := 32) rfl (fun h3 => ?_) (fun h3 => ?_)
  · obtain ⟨xiq, hxiq⟩ := get_of_lt (xs := M2) (k := iq) (by omega)
    refine Gq.valg rfl rfl rfl rfl rfl (val_move rfl rfl) ?_
    refine Gq.valg rfl rfl rfl rfl rfl (val_move rfl rfl) ?_
    refine Gq.valg rfl rfl rfl rfl rfl (val_ixa rfl Try.underlying22 Try.ty28 rfl rfl (j := a) (rfl) (reach_own (k := 0) rfl hpv2)) ?_
    refine Gq.valg rfl rfl rfl rfl rfl (val_load rfl Try.ty28 rfl rfl (cell_own (i := 0) (k := 0) rfl hpv2 rfl)) ?_
    refine Gq.valg rfl rfl rfl rfl rfl (val_move rfl rfl) ?_
    refine Gq.valg rfl rfl rfl rfl rfl (val_move rfl rfl) ?_
    refine Gq.valg rfl rfl rfl rfl rfl (val_ixa rfl Try.underlying22 Try.ty28 rfl rfl (j := iq) (rfl) (reach_own (k := 0) rfl hxiq)) ?_
    refine Gq.valg rfl rfl rfl rfl rfl (val_load rfl Try.ty28 rfl rfl (cell_own (i := 0) (k := 0) rfl hxiq rfl)) ?_
    refine Gq.valg rfl rfl rfl rfl rfl (val_call (vs := [.int .u32 ((pv : Nat) : Int), .int .u32 ((xiq : Nat) : Int)]) rfl Try.fn47 rfl (fun w H => less_any pv xiq)) ?_
    refine Gq.valg rfl rfl rfl rfl rfl (val_notD rfl rfl) ?_
    refine Gq.val rfl rfl rfl (val_pickT rfl rfl rfl) ?_
    refine Gq.done ?_
    refine Gx.thenN ?_
    refine Gx.dec rfl (fun h4 => ?_) (fun h4 => ?_)
    · refine Gx.skip ?_
      refine Gx.thenN ?_
      refine Gx.block ?_
      refine Gx.region ?_
      refine Gx.val rfl rfl rfl (val_move rfl rfl) ?_
      refine Gx.val rfl rfl rfl (val_add rfl rfl rfl (r := ((iq + 1 : Nat) : Int)) (w64 (by omega) (by omega))) ?_
      refine Gx.val rfl rfl rfl (val_assign rfl rfl) ?_
      refine Gx.done ?_
      refine Gx.blkN ?_
      refine Gx.thenN ?_
      exact Gx.round (iq + 1) ⟨by first | omega | (dsimp only; omega), by first | omega | (dsimp only; omega), by first | omega | (dsimp only; omega), hloiq.snoc hxiq (by first | omega | (dsimp only; omega))⟩ (by first | omega | (dsimp only; omega)) ((.cons rfl (.cons rfl (.cons rfl (.cons rfl .nil))))) rfl
    · refine Gx.exit ?_
      refine Gx.thenE ?_
      refine Gx.thenE ?_
      refine Gx.blkE ?_
      refine Gx.thenN ?_
      refine Gx.seq ?_
      refine Gx.block ?_
      refine Gx.loop (ι := Nat) (fun ξ => (ξ + 1 ≤ b) ∧ (iq ≤ ξ + 1) ∧ (ξ ≤ j) ∧ (All (fun z => pv < z) (ξ + 1) b M2)) (fun ξ => [(0, v), (1, .int .i64 ((a : Nat) : Int)), (9, .int .i64 ((iq : Nat) : Int)), (10, .int .i64 ((ξ : Nat) : Int))]) (fun ξ => [Hp.own FU 1 v M2, R]) (fun ξ => ξ) j ⟨by first | omega | (dsimp only; omega), by first | omega | (dsimp only; omega), by first | omega | (dsimp only; omega), hhi⟩ ((.cons rfl (.cons rfl (.cons rfl (.cons rfl .nil))))) rfl ?_
      rintro jq ⟨hjbjq, hijjq, hjjjq, hhijq⟩
      refine Gx.know (m' := [(0, v), (1, .int .i64 ((a : Nat) : Int)), (9, .int .i64 ((iq : Nat) : Int)), (10, .int .i64 ((jq : Nat) : Int))]) (.cons rfl (.cons rfl (.cons rfl (.cons rfl .nil)))) (Gx.norm (l' := [Hp.own FU 1 v M2, R]) rfl ?_)
      refine Gx.seq ?_
      refine Gx.seq ?_
      refine Gx.regionQ Try.mixed (by kernel_rfl) ?_
      refine Gq.val rfl rfl rfl (val_move rfl rfl) ?_
      refine Gq.val rfl rfl rfl (val_move rfl rfl) ?_
      refine Gq.val rfl rfl rfl (val_leq rfl rfl rfl) ?_
      refine Gq.val rfl rfl rfl (val_move rfl rfl) ?_
      refine Gq.cases (t := 49) rfl (fun h5 => ?_) (fun h5 => ?_)
      · obtain ⟨yjq, hyjq⟩ := get_of_lt (xs := M2) (k := jq) (by omega)
        refine Gq.valg rfl rfl rfl rfl rfl (val_move rfl rfl) ?_
        refine Gq.valg rfl rfl rfl rfl rfl (val_move rfl rfl) ?_
        refine Gq.valg rfl rfl rfl rfl rfl (val_ixa rfl Try.underlying22 Try.ty28 rfl rfl (j := a) (rfl) (reach_own (k := 0) rfl hpv2)) ?_
        refine Gq.valg rfl rfl rfl rfl rfl (val_load rfl Try.ty28 rfl rfl (cell_own (i := 0) (k := 0) rfl hpv2 rfl)) ?_
        refine Gq.valg rfl rfl rfl rfl rfl (val_move rfl rfl) ?_
        refine Gq.valg rfl rfl rfl rfl rfl (val_move rfl rfl) ?_
        refine Gq.valg rfl rfl rfl rfl rfl (val_ixa rfl Try.underlying22 Try.ty28 rfl rfl (j := jq) (rfl) (reach_own (k := 0) rfl hyjq)) ?_
        refine Gq.valg rfl rfl rfl rfl rfl (val_load rfl Try.ty28 rfl rfl (cell_own (i := 0) (k := 0) rfl hyjq rfl)) ?_
        refine Gq.valg rfl rfl rfl rfl rfl (val_call (vs := [.int .u32 ((pv : Nat) : Int), .int .u32 ((yjq : Nat) : Int)]) rfl Try.fn47 rfl (fun w H => less_any pv yjq)) ?_
        refine Gq.val rfl rfl rfl (val_pickT rfl rfl rfl) ?_
        refine Gq.done ?_
        refine Gx.thenN ?_
        refine Gx.dec rfl (fun h6 => ?_) (fun h6 => ?_)
        · refine Gx.skip ?_
          refine Gx.thenN ?_
          refine Gx.block ?_
          refine Gx.region ?_
          refine Gx.val rfl rfl rfl (val_move rfl rfl) ?_
          refine Gx.val rfl rfl rfl (val_sub rfl rfl rfl (r := ((jq - 1 : Nat) : Int)) (w64 (by omega) (by omega))) ?_
          refine Gx.val rfl rfl rfl (val_assign rfl rfl) ?_
          refine Gx.done ?_
          refine Gx.blkN ?_
          refine Gx.thenN ?_
          exact Gx.round (jq - 1) ⟨by first | omega | (dsimp only; omega), by first | omega | (dsimp only; omega), by first | omega | (dsimp only; omega), hhijq.cons hyjq (by first | omega | (dsimp only; omega)) (by omega)⟩ (by first | omega | (dsimp only; omega)) ((.cons rfl (.cons rfl (.cons rfl (.cons rfl .nil))))) rfl
        · refine Gx.exit ?_
          refine Gx.thenE ?_
          refine Gx.thenE ?_
          refine Gx.blkE ?_
          refine Gx.thenN ?_
          refine Gx.seq ?_
          refine Gx.seq ?_
          refine Gx.region ?_
          refine Gx.val rfl rfl rfl (val_move rfl rfl) ?_
          refine Gx.val rfl rfl rfl (val_move rfl rfl) ?_
          refine Gx.val rfl rfl rfl (val_gtr rfl rfl rfl) ?_
          refine Gx.done ?_
          refine Gx.thenN ?_
          refine Gx.dec rfl (fun h7 => ?_) (fun h7 => ?_)
          · refine Gx.exit ?_
            refine Gx.thenE ?_
            refine Gx.blkO rfl ?_
            refine Gx.thenE ?_
            refine Gx.blkE ?_
            refine Gx.thenN ?_
            refine Gx.seq ?_
            refine Gx.region ?_
            refine Gx.val rfl rfl rfl (val_move rfl rfl) ?_
            refine Gx.val rfl rfl rfl (val_assign rfl rfl) ?_
            refine Gx.done ?_
            refine Gx.thenN ?_
            refine Gx.ret ?_
            refine Gx.ret1 Try.results48 rfl ?_
            exact ⟨_, iq, hsh2, by omega, by omega, fun k z h0 h1 hz => by
              by_cases e : k = a
              · subst e; rw [hpv2] at hz; cases hz; exact Nat.lt_irrefl _
              · exact hloiq k z (by omega) h1 hz, fun k z h0 h1 hz => hhijq k z (by omega) h1 hz, rfl, sep1 _ _⟩
          · refine Gx.skip ?_
            refine Gx.thenN ?_
            refine Gx.seq ?_
            have hlt : iq < jq := by first | (exfalso; omega) | exact part_lt (P := (fun z => ¬ pv < z)) (Q := (fun z => pv < z)) hxiq hyjq (by first | omega | (dsimp only; omega)) (by first | omega | (dsimp only; omega)) (fun z h => by first | omega | (dsimp only at *; omega)) (by omega)
            refine Gx.regionO (fun j => j == 13) 15 [0, 1, 2, 3, 4, 5, 6, 7, 8, 9, 10, 11, 12, 13, 14] (fun us => match us with | [] => [Hp.own FU 1 v M2, R] | u1 :: _ => [Hp.own FU 1 v (M2.set iq yjq), R]) Try.mixed (by kernel_rfl) rfl ?_
            refine Gw.val rfl rfl rfl rfl rfl (fun us => val_move rfl rfl) ?_
            refine Gw.val rfl rfl rfl rfl rfl (fun us => val_move rfl rfl) ?_
            refine Gw.val rfl rfl rfl rfl rfl (fun us => val_move rfl rfl) ?_
            refine Gw.val rfl rfl rfl rfl rfl (fun us => val_move rfl rfl) ?_
            refine Gw.val rfl rfl rfl rfl rfl (fun us => val_move rfl rfl) ?_
            refine Gw.val rfl rfl rfl rfl rfl (fun us => val_move rfl rfl) ?_
            refine Gw.val0 rfl rfl rfl (by kernel_rfl) rfl rfl (val_ixa rfl Try.underlying22 Try.ty28 rfl rfl (j := jq) (rfl) (reach_own (k := 0) rfl hyjq)) ?_
            refine Gw.val0 rfl rfl rfl (by kernel_rfl) rfl rfl (val_load rfl Try.ty28 rfl rfl (cell_own (i := 0) (k := 0) rfl hyjq rfl)) ?_
            refine Gw.val rfl rfl rfl rfl rfl (fun us => val_move rfl rfl) ?_
            refine Gw.val rfl rfl rfl rfl rfl (fun us => val_move rfl rfl) ?_
            obtain ⟨x8, hx8⟩ := get_of_lt (xs := M2.set iq yjq) (k := iq) (by first | omega | (simp; omega))
            refine Gw.val rfl rfl rfl rfl rfl (fun us => match us with | [] => val_ixa rfl Try.underlying22 Try.ty28 rfl rfl (j := iq) (rfl) (reach_own (k := 0) rfl hxiq) | u1 :: _ => val_ixa rfl Try.underlying22 Try.ty28 rfl rfl (j := iq) (rfl) (reach_own (k := 0) rfl hx8)) ?_
            refine Gw.val0 rfl rfl rfl (by kernel_rfl) rfl rfl (val_load rfl Try.ty28 rfl rfl (cell_own (i := 0) (k := 0) rfl hxiq rfl)) ?_
            refine Gw.val0 rfl rfl rfl (by kernel_rfl) rfl rfl (val_ixa rfl Try.underlying22 Try.ty28 rfl rfl (j := iq) (rfl) (reach_own (k := 0) rfl hxiq)) ?_
            refine Gw.chg0 rfl rfl rfl rfl (Eff.mono (eff_storeElA yjq rfl Try.ty28 rfl rfl rfl FU_one (k := 0) rfl FU_len hxiq (l' := [Hp.own FU 1 v (M2.set iq yjq), R]) rfl) (fun _ _ h => congrArg sep h)) (fun _ => ?_)
            obtain ⟨x9, hx9⟩ := get_of_lt (xs := M2.set iq yjq) (k := jq) (by first | omega | (simp; omega))
            refine Gw.val0 rfl rfl rfl (by kernel_rfl) rfl rfl (val_ixa rfl Try.underlying22 Try.ty28 rfl rfl (j := jq) (rfl) (reach_own (k := 0) rfl hx9)) ?_
            refine Gw.done ?_
            refine Gx.norm (l' := [Hp.own FU 1 v (M2.set iq yjq), R]) rfl ?_
            refine Gx.eff0 rfl rfl (eff_storeElA xiq rfl Try.ty28 rfl rfl rfl FU_one (k := 0) rfl FU_len hx9 (l' := [Hp.own FU 1 v ((M2.set iq yjq).set jq xiq), R]) rfl) ?_
            rintro _ _ rfl
            refine Gx.done ?_
            refine Gx.thenN ?_
            refine Gx.seq ?_
            refine Gx.region ?_
            refine Gx.val rfl rfl rfl (val_move rfl rfl) ?_
            refine Gx.val rfl rfl rfl (val_add rfl rfl rfl (r := ((iq + 1 : Nat) : Int)) (w64 (by omega) (by omega))) ?_
            refine Gx.val rfl rfl rfl (val_assign rfl rfl) ?_
            refine Gx.done ?_
            refine Gx.thenN ?_
            refine Gx.region ?_
            refine Gx.val rfl rfl rfl (val_move rfl rfl) ?_
            refine Gx.val rfl rfl rfl (val_sub rfl rfl rfl (r := ((jq - 1 : Nat) : Int)) (w64 (by omega) (by omega))) ?_
            refine Gx.val rfl rfl rfl (val_assign rfl rfl) ?_
            refine Gx.done ?_
            refine Gx.blkN ?_
            refine Gx.thenN ?_
            exact Gx.round (iq + 1, jq - 1, (M2.set iq yjq).set jq xiq) ⟨by first | omega | (dsimp only; omega), by first | omega | (dsimp only; omega), by first | omega | (dsimp only; omega), Sh.swap hsh2 (by omega) (by omega) (by omega) (by omega) hxiq hyjq, part_keep hpv2 hxiq hyjq (by omega) (by omega), part_lo hloiq hxiq hyjq (by first | omega | (exfalso; omega) | (dsimp only; omega)) hlt, part_hi hhijq hxiq hyjq (by first | omega | (exfalso; omega) | (dsimp only; omega)) hlt⟩ (by first | omega | (dsimp only; omega)) ((.cons rfl (.cons rfl (.cons rfl (.cons rfl .nil))))) rfl
      · refine Gq.skipg rfl rfl rfl rfl rfl rfl ?_
        refine Gq.skipg rfl rfl rfl rfl rfl rfl ?_
        refine Gq.skipg rfl rfl rfl rfl rfl rfl ?_
        refine Gq.skipg rfl rfl rfl rfl rfl rfl ?_
        refine Gq.skipg rfl rfl rfl rfl rfl rfl ?_
        refine Gq.skipg rfl rfl rfl rfl rfl rfl ?_
        refine Gq.skipg rfl rfl rfl rfl rfl rfl ?_
        refine Gq.skipg rfl rfl rfl rfl rfl rfl ?_
        refine Gq.skipg rfl rfl rfl rfl rfl rfl ?_
        refine Gq.val rfl rfl rfl (val_pickF rfl rfl rfl) ?_
        refine Gq.done ?_
        refine Gx.thenN ?_
        refine Gx.f rfl ?_
        refine Gx.exit ?_
        refine Gx.thenE ?_
        refine Gx.thenE ?_
        refine Gx.blkE ?_
        refine Gx.thenN ?_
        refine Gx.seq ?_
        refine Gx.seq ?_
        refine Gx.region ?_
        refine Gx.val rfl rfl rfl (val_move rfl rfl) ?_
        refine Gx.val rfl rfl rfl (val_move rfl rfl) ?_
        refine Gx.val rfl rfl rfl (val_gtr rfl rfl rfl) ?_
        refine Gx.done ?_
        refine Gx.thenN ?_
        refine Gx.dec rfl (fun h10 => ?_) (fun h10 => ?_)
        · refine Gx.exit ?_
          refine Gx.thenE ?_
          refine Gx.blkO rfl ?_
          refine Gx.thenE ?_
          refine Gx.blkE ?_
          refine Gx.thenN ?_
          refine Gx.seq ?_
          refine Gx.region ?_
          refine Gx.val rfl rfl rfl (val_move rfl rfl) ?_
          refine Gx.val rfl rfl rfl (val_assign rfl rfl) ?_
          refine Gx.done ?_
          refine Gx.thenN ?_
          refine Gx.ret ?_
          refine Gx.ret1 Try.results48 rfl ?_
          exact ⟨_, iq, hsh2, by omega, by omega, fun k z h0 h1 hz => by
            by_cases e : k = a
            · subst e; rw [hpv2] at hz; cases hz; exact Nat.lt_irrefl _
            · exact hloiq k z (by omega) h1 hz, fun k z h0 h1 hz => hhijq k z (by omega) h1 hz, rfl, sep1 _ _⟩
        · refine Gx.skip ?_
          refine Gx.thenN ?_
          refine Gx.seq ?_
          obtain ⟨yjq, hyjq⟩ := get_of_lt (xs := M2) (k := jq) (by omega)
          have hlt : iq < jq := by first | (exfalso; omega) | exact part_lt (P := (fun z => ¬ pv < z)) (Q := (fun z => pv < z)) hxiq hyjq (by first | omega | (dsimp only; omega)) (by first | omega | (dsimp only; omega)) (fun z h => by first | omega | (dsimp only at *; omega)) (by omega)
          refine Gx.regionO (fun j => j == 13) 15 [0, 1, 2, 3, 4, 5, 6, 7, 8, 9, 10, 11, 12, 13, 14] (fun us => match us with | [] => [Hp.own FU 1 v M2, R] | u1 :: _ => [Hp.own FU 1 v (M2.set iq yjq), R]) Try.mixed (by kernel_rfl) rfl ?_
          refine Gw.val rfl rfl rfl rfl rfl (fun us => val_move rfl rfl) ?_
          refine Gw.val rfl rfl rfl rfl rfl (fun us => val_move rfl rfl) ?_
          refine Gw.val rfl rfl rfl rfl rfl (fun us => val_move rfl rfl) ?_
          refine Gw.val rfl rfl rfl rfl rfl (fun us => val_move rfl rfl) ?_
          refine Gw.val rfl rfl rfl rfl rfl (fun us => val_move rfl rfl) ?_
          refine Gw.val rfl rfl rfl rfl rfl (fun us => val_move rfl rfl) ?_
          refine Gw.val0 rfl rfl rfl (by kernel_rfl) rfl rfl (val_ixa rfl Try.underlying22 Try.ty28 rfl rfl (j := jq) (rfl) (reach_own (k := 0) rfl hyjq)) ?_
          refine Gw.val0 rfl rfl rfl (by kernel_rfl) rfl rfl (val_load rfl Try.ty28 rfl rfl (cell_own (i := 0) (k := 0) rfl hyjq rfl)) ?_
          refine Gw.val rfl rfl rfl rfl rfl (fun us => val_move rfl rfl) ?_
          refine Gw.val rfl rfl rfl rfl rfl (fun us => val_move rfl rfl) ?_
          obtain ⟨x11, hx11⟩ := get_of_lt (xs := M2.set iq yjq) (k := iq) (by first | omega | (simp; omega))
          refine Gw.val rfl rfl rfl rfl rfl (fun us => match us with | [] => val_ixa rfl Try.underlying22 Try.ty28 rfl rfl (j := iq) (rfl) (reach_own (k := 0) rfl hxiq) | u1 :: _ => val_ixa rfl Try.underlying22 Try.ty28 rfl rfl (j := iq) (rfl) (reach_own (k := 0) rfl hx11)) ?_
          refine Gw.val0 rfl rfl rfl (by kernel_rfl) rfl rfl (val_load rfl Try.ty28 rfl rfl (cell_own (i := 0) (k := 0) rfl hxiq rfl)) ?_
          refine Gw.val0 rfl rfl rfl (by kernel_rfl) rfl rfl (val_ixa rfl Try.underlying22 Try.ty28 rfl rfl (j := iq) (rfl) (reach_own (k := 0) rfl hxiq)) ?_
          refine Gw.chg0 rfl rfl rfl rfl (Eff.mono (eff_storeElA yjq rfl Try.ty28 rfl rfl rfl FU_one (k := 0) rfl FU_len hxiq (l' := [Hp.own FU 1 v (M2.set iq yjq), R]) rfl) (fun _ _ h => congrArg sep h)) (fun _ => ?_)
          obtain ⟨x12, hx12⟩ := get_of_lt (xs := M2.set iq yjq) (k := jq) (by first | omega | (simp; omega))
          refine Gw.val0 rfl rfl rfl (by kernel_rfl) rfl rfl (val_ixa rfl Try.underlying22 Try.ty28 rfl rfl (j := jq) (rfl) (reach_own (k := 0) rfl hx12)) ?_
          refine Gw.done ?_
          refine Gx.norm (l' := [Hp.own FU 1 v (M2.set iq yjq), R]) rfl ?_
          refine Gx.eff0 rfl rfl (eff_storeElA xiq rfl Try.ty28 rfl rfl rfl FU_one (k := 0) rfl FU_len hx12 (l' := [Hp.own FU 1 v ((M2.set iq yjq).set jq xiq), R]) rfl) ?_
          rintro _ _ rfl
          refine Gx.done ?_
          refine Gx.thenN ?_
          refine Gx.seq ?_
          refine Gx.region ?_
          refine Gx.val rfl rfl rfl (val_move rfl rfl) ?_
          refine Gx.val rfl rfl rfl (val_add rfl rfl rfl (r := ((iq + 1 : Nat) : Int)) (w64 (by omega) (by omega))) ?_
          refine Gx.val rfl rfl rfl (val_assign rfl rfl) ?_
          refine Gx.done ?_
          refine Gx.thenN ?_
          refine Gx.region ?_
          refine Gx.val rfl rfl rfl (val_move rfl rfl) ?_
          refine Gx.val rfl rfl rfl (val_sub rfl rfl rfl (r := ((jq - 1 : Nat) : Int)) (w64 (by omega) (by omega))) ?_
          refine Gx.val rfl rfl rfl (val_assign rfl rfl) ?_
          refine Gx.done ?_
          refine Gx.blkN ?_
          refine Gx.thenN ?_
          exact Gx.round (iq + 1, jq - 1, (M2.set iq yjq).set jq xiq) ⟨by first | omega | (dsimp only; omega), by first | omega | (dsimp only; omega), by first | omega | (dsimp only; omega), Sh.swap hsh2 (by omega) (by omega) (by omega) (by omega) hxiq hyjq, part_keep hpv2 hxiq hyjq (by omega) (by omega), part_lo hloiq hxiq hyjq (by first | omega | (exfalso; omega) | (dsimp only; omega)) hlt, part_hi hhijq hxiq hyjq (by first | omega | (exfalso; omega) | (dsimp only; omega)) hlt⟩ (by first | omega | (dsimp only; omega)) ((.cons rfl (.cons rfl (.cons rfl (.cons rfl .nil))))) rfl
  · refine Gq.skipg rfl rfl rfl rfl rfl rfl ?_
    refine Gq.skipg rfl rfl rfl rfl rfl rfl ?_
    refine Gq.skipg rfl rfl rfl rfl rfl rfl ?_
    refine Gq.skipg rfl rfl rfl rfl rfl rfl ?_
    refine Gq.skipg rfl rfl rfl rfl rfl rfl ?_
    refine Gq.skipg rfl rfl rfl rfl rfl rfl ?_
    refine Gq.skipg rfl rfl rfl rfl rfl rfl ?_
    refine Gq.skipg rfl rfl rfl rfl rfl rfl ?_
    refine Gq.skipg rfl rfl rfl rfl rfl rfl ?_
    refine Gq.skipg rfl rfl rfl rfl rfl rfl ?_
    refine Gq.val rfl rfl rfl (val_pickF rfl rfl rfl) ?_
    refine Gq.done ?_
    refine Gx.thenN ?_
    refine Gx.f rfl ?_
    refine Gx.exit ?_
    refine Gx.thenE ?_
    refine Gx.thenE ?_
    refine Gx.blkE ?_
    refine Gx.thenN ?_
    refine Gx.seq ?_
    refine Gx.block ?_
    refine Gx.loop (ι := Nat) (fun ξ => (ξ + 1 ≤ b) ∧ (iq ≤ ξ + 1) ∧ (ξ ≤ j) ∧ (All (fun z => pv < z) (ξ + 1) b M2)) (fun ξ => [(0, v), (1, .int .i64 ((a : Nat) : Int)), (9, .int .i64 ((iq : Nat) : Int)), (10, .int .i64 ((ξ : Nat) : Int))]) (fun ξ => [Hp.own FU 1 v M2, R]) (fun ξ => ξ) j ⟨by first | omega | (dsimp only; omega), by first | omega | (dsimp only; omega), by first | omega | (dsimp only; omega), hhi⟩ ((.cons rfl (.cons rfl (.cons rfl (.cons rfl .nil))))) rfl ?_
    rintro jq ⟨hjbjq, hijjq, hjjjq, hhijq⟩
    refine Gx.know (m' := [(0, v), (1, .int .i64 ((a : Nat) : Int)), (9, .int .i64 ((iq : Nat) : Int)), (10, .int .i64 ((jq : Nat) : Int))]) (.cons rfl (.cons rfl (.cons rfl (.cons rfl .nil)))) (Gx.norm (l' := [Hp.own FU 1 v M2, R]) rfl ?_)
    refine Gx.seq ?_
    refine Gx.seq ?_
    refine Gx.regionQ Try.mixed (by kernel_rfl) ?_
    refine Gq.val rfl rfl rfl (val_move rfl rfl) ?_
    refine Gq.val rfl rfl rfl (val_move rfl rfl) ?_
    refine Gq.val rfl rfl rfl (val_leq rfl rfl rfl) ?_
    refine Gq.val rfl rfl rfl (val_move rfl rfl) ?_
    refine Gq.cases (t := 49) rfl (fun h13 => ?_) (fun h13 => ?_)
    · obtain ⟨yjq, hyjq⟩ := get_of_lt (xs := M2) (k := jq) (by omega)
      refine Gq.valg rfl rfl rfl rfl rfl (val_move rfl rfl) ?_
      refine Gq.valg rfl rfl rfl rfl rfl (val_move rfl rfl) ?_
      refine Gq.valg rfl rfl rfl rfl rfl (val_ixa rfl Try.underlying22 Try.ty28 rfl rfl (j := a) (rfl) (reach_own (k := 0) rfl hpv2)) ?_
      refine Gq.valg rfl rfl rfl rfl rfl (val_load rfl Try.ty28 rfl rfl (cell_own (i := 0) (k := 0) rfl hpv2 rfl)) ?_
      refine Gq.valg rfl rfl rfl rfl rfl (val_move rfl rfl) ?_
      refine Gq.valg rfl rfl rfl rfl rfl (val_move rfl rfl) ?_
      refine Gq.valg rfl rfl rfl rfl rfl (val_ixa rfl Try.underlying22 Try.ty28 rfl rfl (j := jq) (rfl) (reach_own (k := 0) rfl hyjq)) ?_
      refine Gq.valg rfl rfl rfl rfl rfl (val_load rfl Try.ty28 rfl rfl (cell_own (i := 0) (k := 0) rfl hyjq rfl)) ?_
      refine Gq.valg rfl rfl rfl rfl rfl (val_call (vs := [.int .u32 ((pv : Nat) : Int), .int .u32 ((yjq : Nat) : Int)]) rfl Try.fn47 rfl (fun w H => less_any pv yjq)) ?_
      refine Gq.val rfl rfl rfl (val_pickT rfl rfl rfl) ?_
      refine Gq.done ?_
      refine Gx.thenN ?_
      refine Gx.dec rfl (fun h14 => ?_) (fun h14 => ?_)
      · refine Gx.skip ?_
        refine Gx.thenN ?_
        refine Gx.block ?_
        refine Gx.region ?_
        refine Gx.val rfl rfl rfl (val_move rfl rfl) ?_
        refine Gx.val rfl rfl rfl (val_sub rfl rfl rfl (r := ((jq - 1 : Nat) : Int)) (w64 (by omega) (by omega))) ?_
        refine Gx.val rfl rfl rfl (val_assign rfl rfl) ?_
        refine Gx.done ?_
        refine Gx.blkN ?_
        refine Gx.thenN ?_
        exact Gx.round (jq - 1) ⟨by first | omega | (dsimp only; omega), by first | omega | (dsimp only; omega), by first | omega | (dsimp only; omega), hhijq.cons hyjq (by first | omega | (dsimp only; omega)) (by omega)⟩ (by first | omega | (dsimp only; omega)) ((.cons rfl (.cons rfl (.cons rfl (.cons rfl .nil))))) rfl
      · refine Gx.exit ?_
        refine Gx.thenE ?_
        refine Gx.thenE ?_
        refine Gx.blkE ?_
        refine Gx.thenN ?_
        refine Gx.seq ?_
        refine Gx.seq ?_
        refine Gx.region ?_
        refine Gx.val rfl rfl rfl (val_move rfl rfl) ?_
        refine Gx.val rfl rfl rfl (val_move rfl rfl) ?_
        refine Gx.val rfl rfl rfl (val_gtr rfl rfl rfl) ?_
        refine Gx.done ?_
        refine Gx.thenN ?_
        refine Gx.dec rfl (fun h15 => ?_) (fun h15 => ?_)
        · refine Gx.exit ?_
          refine Gx.thenE ?_
          refine Gx.blkO rfl ?_
          refine Gx.thenE ?_
          refine Gx.blkE ?_
          refine Gx.thenN ?_
          refine Gx.seq ?_
          refine Gx.region ?_
          refine Gx.val rfl rfl rfl (val_move rfl rfl) ?_
          refine Gx.val rfl rfl rfl (val_assign rfl rfl) ?_
          refine Gx.done ?_
          refine Gx.thenN ?_
          refine Gx.ret ?_
          refine Gx.ret1 Try.results48 rfl ?_
          exact ⟨_, iq, hsh2, by omega, by omega, fun k z h0 h1 hz => by
            by_cases e : k = a
            · subst e; rw [hpv2] at hz; cases hz; exact Nat.lt_irrefl _
            · exact hloiq k z (by omega) h1 hz, fun k z h0 h1 hz => hhijq k z (by omega) h1 hz, rfl, sep1 _ _⟩
        · refine Gx.skip ?_
          refine Gx.thenN ?_
          refine Gx.seq ?_
          obtain ⟨xiq, hxiq⟩ := get_of_lt (xs := M2) (k := iq) (by omega)
          have hlt : iq < jq := by first | (exfalso; omega) | exact part_lt (P := (fun z => ¬ pv < z)) (Q := (fun z => pv < z)) hxiq hyjq (by first | omega | (dsimp only; omega)) (by first | omega | (dsimp only; omega)) (fun z h => by first | omega | (dsimp only at *; omega)) (by omega)
          refine Gx.regionO (fun j => j == 13) 15 [0, 1, 2, 3, 4, 5, 6, 7, 8, 9, 10, 11, 12, 13, 14] (fun us => match us with | [] => [Hp.own FU 1 v M2, R] | u1 :: _ => [Hp.own FU 1 v (M2.set iq yjq), R]) Try.mixed (by kernel_rfl) rfl ?_
          refine Gw.val rfl rfl rfl rfl rfl (fun us => val_move rfl rfl) ?_
          refine Gw.val rfl rfl rfl rfl rfl (fun us => val_move rfl rfl) ?_
          refine Gw.val rfl rfl rfl rfl rfl (fun us => val_move rfl rfl) ?_
          refine Gw.val rfl rfl rfl rfl rfl (fun us => val_move rfl rfl) ?_
          refine Gw.val rfl rfl rfl rfl rfl (fun us => val_move rfl rfl) ?_
          refine Gw.val rfl rfl rfl rfl rfl (fun us => val_move rfl rfl) ?_
          refine Gw.val0 rfl rfl rfl (by kernel_rfl) rfl rfl (val_ixa rfl Try.underlying22 Try.ty28 rfl rfl (j := jq) (rfl) (reach_own (k := 0) rfl hyjq)) ?_
          refine Gw.val0 rfl rfl rfl (by kernel_rfl) rfl rfl (val_load rfl Try.ty28 rfl rfl (cell_own (i := 0) (k := 0) rfl hyjq rfl)) ?_
          refine Gw.val rfl rfl rfl rfl rfl (fun us => val_move rfl rfl) ?_
          refine Gw.val rfl rfl rfl rfl rfl (fun us => val_move rfl rfl) ?_
          obtain ⟨x16, hx16⟩ := get_of_lt (xs := M2.set iq yjq) (k := iq) (by first | omega | (simp; omega))
          refine Gw.val rfl rfl rfl rfl rfl (fun us => match us with | [] => val_ixa rfl Try.underlying22 Try.ty28 rfl rfl (j := iq) (rfl) (reach_own (k := 0) rfl hxiq) | u1 :: _ => val_ixa rfl Try.underlying22 Try.ty28 rfl rfl (j := iq) (rfl) (reach_own (k := 0) rfl hx16)) ?_
          refine Gw.val0 rfl rfl rfl (by kernel_rfl) rfl rfl (val_load rfl Try.ty28 rfl rfl (cell_own (i := 0) (k := 0) rfl hxiq rfl)) ?_
          refine Gw.val0 rfl rfl rfl (by kernel_rfl) rfl rfl (val_ixa rfl Try.underlying22 Try.ty28 rfl rfl (j := iq) (rfl) (reach_own (k := 0) rfl hxiq)) ?_
          refine Gw.chg0 rfl rfl rfl rfl (Eff.mono (eff_storeElA yjq rfl Try.ty28 rfl rfl rfl FU_one (k := 0) rfl FU_len hxiq (l' := [Hp.own FU 1 v (M2.set iq yjq), R]) rfl) (fun _ _ h => congrArg sep h)) (fun _ => ?_)
          obtain ⟨x17, hx17⟩ := get_of_lt (xs := M2.set iq yjq) (k := jq) (by first | omega | (simp; omega))
          refine Gw.val0 rfl rfl rfl (by kernel_rfl) rfl rfl (val_ixa rfl Try.underlying22 Try.ty28 rfl rfl (j := jq) (rfl) (reach_own (k := 0) rfl hx17)) ?_
          refine Gw.done ?_
          refine Gx.norm (l' := [Hp.own FU 1 v (M2.set iq yjq), R]) rfl ?_
          refine Gx.eff0 rfl rfl (eff_storeElA xiq rfl Try.ty28 rfl rfl rfl FU_one (k := 0) rfl FU_len hx17 (l' := [Hp.own FU 1 v ((M2.set iq yjq).set jq xiq), R]) rfl) ?_
          rintro _ _ rfl
          refine Gx.done ?_
          refine Gx.thenN ?_
          refine Gx.seq ?_
          refine Gx.region ?_
          refine Gx.val rfl rfl rfl (val_move rfl rfl) ?_
          refine Gx.val rfl rfl rfl (val_add rfl rfl rfl (r := ((iq + 1 : Nat) : Int)) (w64 (by omega) (by omega))) ?_
          refine Gx.val rfl rfl rfl (val_assign rfl rfl) ?_
          refine Gx.done ?_
          refine Gx.thenN ?_
          refine Gx.region ?_
          refine Gx.val rfl rfl rfl (val_move rfl rfl) ?_
          refine Gx.val rfl rfl rfl (val_sub rfl rfl rfl (r := ((jq - 1 : Nat) : Int)) (w64 (by omega) (by omega))) ?_
          refine Gx.val rfl rfl rfl (val_assign rfl rfl) ?_
          refine Gx.done ?_
          refine Gx.blkN ?_
          refine Gx.thenN ?_
          exact Gx.round (iq + 1, jq - 1, (M2.set iq yjq).set jq xiq) ⟨by first | omega | (dsimp only; omega), by first | omega | (dsimp only; omega), by first | omega | (dsimp only; omega), Sh.swap hsh2 (by omega) (by omega) (by omega) (by omega) hxiq hyjq, part_keep hpv2 hxiq hyjq (by omega) (by omega), part_lo hloiq hxiq hyjq (by first | omega | (exfalso; omega) | (dsimp only; omega)) hlt, part_hi hhijq hxiq hyjq (by first | omega | (exfalso; omega) | (dsimp only; omega)) hlt⟩ (by first | omega | (dsimp only; omega)) ((.cons rfl (.cons rfl (.cons rfl (.cons rfl .nil))))) rfl
    · refine Gq.skipg rfl rfl rfl rfl rfl rfl ?_
      refine Gq.skipg rfl rfl rfl rfl rfl rfl ?_
      refine Gq.skipg rfl rfl rfl rfl rfl rfl ?_
      refine Gq.skipg rfl rfl rfl rfl rfl rfl ?_
      refine Gq.skipg rfl rfl rfl rfl rfl rfl ?_
      refine Gq.skipg rfl rfl rfl rfl rfl rfl ?_
      refine Gq.skipg rfl rfl rfl rfl rfl rfl ?_
      refine Gq.skipg rfl rfl rfl rfl rfl rfl ?_
      refine Gq.skipg rfl rfl rfl rfl rfl rfl ?_
      refine Gq.val rfl rfl rfl (val_pickF rfl rfl rfl) ?_
      refine Gq.done ?_
      refine Gx.thenN ?_
      refine Gx.f rfl ?_
      refine Gx.exit ?_
      refine Gx.thenE ?_
      refine Gx.thenE ?_
      refine Gx.blkE ?_
      refine Gx.thenN ?_
      refine Gx.seq ?_
      refine Gx.seq ?_
      refine Gx.region ?_
      refine Gx.val rfl rfl rfl (val_move rfl rfl) ?_
      refine Gx.val rfl rfl rfl (val_move rfl rfl) ?_
      refine Gx.val rfl rfl rfl (val_gtr rfl rfl rfl) ?_
      refine Gx.done ?_
      refine Gx.thenN ?_
      refine Gx.dec rfl (fun h18 => ?_) (fun h18 => ?_)
      · refine Gx.exit ?_
        refine Gx.thenE ?_
        refine Gx.blkO rfl ?_
        refine Gx.thenE ?_
        refine Gx.blkE ?_
        refine Gx.thenN ?_
        refine Gx.seq ?_
        refine Gx.region ?_
        refine Gx.val rfl rfl rfl (val_move rfl rfl) ?_
        refine Gx.val rfl rfl rfl (val_assign rfl rfl) ?_
        refine Gx.done ?_
        refine Gx.thenN ?_
        refine Gx.ret ?_
        refine Gx.ret1 Try.results48 rfl ?_
        exact ⟨_, iq, hsh2, by omega, by omega, fun k z h0 h1 hz => by
          by_cases e : k = a
          · subst e; rw [hpv2] at hz; cases hz; exact Nat.lt_irrefl _
          · exact hloiq k z (by omega) h1 hz, fun k z h0 h1 hz => hhijq k z (by omega) h1 hz, rfl, sep1 _ _⟩
      · refine Gx.skip ?_
        refine Gx.thenN ?_
        refine Gx.seq ?_
        obtain ⟨xiq, hxiq⟩ := get_of_lt (xs := M2) (k := iq) (by omega)
        obtain ⟨yjq, hyjq⟩ := get_of_lt (xs := M2) (k := jq) (by omega)
        have hlt : iq < jq := by first | (exfalso; omega) | exact part_lt (P := (fun z => ¬ pv < z)) (Q := (fun z => pv < z)) hxiq hyjq (by first | omega | (dsimp only; omega)) (by first | omega | (dsimp only; omega)) (fun z h => by first | omega | (dsimp only at *; omega)) (by omega)
        refine Gx.regionO (fun j => j == 13) 15 [0, 1, 2, 3, 4, 5, 6, 7, 8, 9, 10, 11, 12, 13, 14] (fun us => match us with | [] => [Hp.own FU 1 v M2, R] | u1 :: _ => [Hp.own FU 1 v (M2.set iq yjq), R]) Try.mixed (by kernel_rfl) rfl ?_
        refine Gw.val rfl rfl rfl rfl rfl (fun us => val_move rfl rfl) ?_
        refine Gw.val rfl rfl rfl rfl rfl (fun us => val_move rfl rfl) ?_
        refine Gw.val rfl rfl rfl rfl rfl (fun us => val_move rfl rfl) ?_
        refine Gw.val rfl rfl rfl rfl rfl (fun us => val_move rfl rfl) ?_
        refine Gw.val rfl rfl rfl rfl rfl (fun us => val_move rfl rfl) ?_
        refine Gw.val rfl rfl rfl rfl rfl (fun us => val_move rfl rfl) ?_
        refine Gw.val0 rfl rfl rfl (by kernel_rfl) rfl rfl (val_ixa rfl Try.underlying22 Try.ty28 rfl rfl (j := jq) (rfl) (reach_own (k := 0) rfl hyjq)) ?_
        refine Gw.val0 rfl rfl rfl (by kernel_rfl) rfl rfl (val_load rfl Try.ty28 rfl rfl (cell_own (i := 0) (k := 0) rfl hyjq rfl)) ?_
        refine Gw.val rfl rfl rfl rfl rfl (fun us => val_move rfl rfl) ?_
        refine Gw.val rfl rfl rfl rfl rfl (fun us => val_move rfl rfl) ?_
        obtain ⟨x19, hx19⟩ := get_of_lt (xs := M2.set iq yjq) (k := iq) (by first | omega | (simp; omega))
        refine Gw.val rfl rfl rfl rfl rfl (fun us => match us with | [] => val_ixa rfl Try.underlying22 Try.ty28 rfl rfl (j := iq) (rfl) (reach_own (k := 0) rfl hxiq) | u1 :: _ => val_ixa rfl Try.underlying22 Try.ty28 rfl rfl (j := iq) (rfl) (reach_own (k := 0) rfl hx19)) ?_
        refine Gw.val0 rfl rfl rfl (by kernel_rfl) rfl rfl (val_load rfl Try.ty28 rfl rfl (cell_own (i := 0) (k := 0) rfl hxiq rfl)) ?_
        refine Gw.val0 rfl rfl rfl (by kernel_rfl) rfl rfl (val_ixa rfl Try.underlying22 Try.ty28 rfl rfl (j := iq) (rfl) (reach_own (k := 0) rfl hxiq)) ?_
        refine Gw.chg0 rfl rfl rfl rfl (Eff.mono (eff_storeElA yjq rfl Try.ty28 rfl rfl rfl FU_one (k := 0) rfl FU_len hxiq (l' := [Hp.own FU 1 v (M2.set iq yjq), R]) rfl) (fun _ _ h => congrArg sep h)) (fun _ => ?_)
        obtain ⟨x20, hx20⟩ := get_of_lt (xs := M2.set iq yjq) (k := jq) (by first | omega | (simp; omega))
        refine Gw.val0 rfl rfl rfl (by kernel_rfl) rfl rfl (val_ixa rfl Try.underlying22 Try.ty28 rfl rfl (j := jq) (rfl) (reach_own (k := 0) rfl hx20)) ?_
        refine Gw.done ?_
        refine Gx.norm (l' := [Hp.own FU 1 v (M2.set iq yjq), R]) rfl ?_
        refine Gx.eff0 rfl rfl (eff_storeElA xiq rfl Try.ty28 rfl rfl rfl FU_one (k := 0) rfl FU_len hx20 (l' := [Hp.own FU 1 v ((M2.set iq yjq).set jq xiq), R]) rfl) ?_
        rintro _ _ rfl
        refine Gx.done ?_
        refine Gx.thenN ?_
        refine Gx.seq ?_
        refine Gx.region ?_
        refine Gx.val rfl rfl rfl (val_move rfl rfl) ?_
        refine Gx.val rfl rfl rfl (val_add rfl rfl rfl (r := ((iq + 1 : Nat) : Int)) (w64 (by omega) (by omega))) ?_
        refine Gx.val rfl rfl rfl (val_assign rfl rfl) ?_
        refine Gx.done ?_
        refine Gx.thenN ?_
        refine Gx.region ?_
        refine Gx.val rfl rfl rfl (val_move rfl rfl) ?_
        refine Gx.val rfl rfl rfl (val_sub rfl rfl rfl (r := ((jq - 1 : Nat) : Int)) (w64 (by omega) (by omega))) ?_
        refine Gx.val rfl rfl rfl (val_assign rfl rfl) ?_
        refine Gx.done ?_
        refine Gx.blkN ?_
        refine Gx.thenN ?_
        exact Gx.round (iq + 1, jq - 1, (M2.set iq yjq).set jq xiq) ⟨by first | omega | (dsimp only; omega), by first | omega | (dsimp only; omega), by first | omega | (dsimp only; omega), Sh.swap hsh2 (by omega) (by omega) (by omega) (by omega) hxiq hyjq, part_keep hpv2 hxiq hyjq (by omega) (by omega), part_lo hloiq hxiq hyjq (by first | omega | (exfalso; omega) | (dsimp only; omega)) hlt, part_hi hhijq hxiq hyjq (by first | omega | (exfalso; omega) | (dsimp only; omega)) hlt⟩ (by first | omega | (dsimp only; omega)) ((.cons rfl (.cons rfl (.cons rfl (.cons rfl .nil))))) rfl

set_option maxHeartbeats 2000000 in
theorem part_any {W w : World} {v : Value} {xs : List Nat} {R : Hp} {a b p pv : Nat} (hap : a ≤ p) (hpb : p < b) (hb : b ≤ xs.length) (hl : xs.length ≤ 65000) (hp : xs[p]? = some pv) (H : Sat W w (Hp.own FU 1 v xs * R)) :
    Calls Try.prog 49 #[v, .int .i64 ((a : Nat) : Int), .int .i64 ((b : Nat) : Int), .int .i64 ((p : Nat) : Int)] w (Ret W fun u l => ∃ ys mid al, Sh a b xs ys ∧ a ≤ mid ∧ mid + 1 ≤ b ∧ ys[mid]? = some pv ∧ All (fun z => z < pv) a mid ys ∧ All (fun z => pv ≤ z) (mid + 1) b ys ∧ u = .tuple #[.int .i64 ((mid : Nat) : Int), .bool al] ∧ sep l = Hp.own FU 1 v ys * R) := by
  refine Gx.enter (l := [Hp.own FU 1 v xs, R]) Try.func49 rfl Try.ntmps49 rfl (H.frame1) ?_
  refine Gx.know (m' := [(0, v), (1, .int .i64 ((a : Nat) : Int)), (2, .int .i64 ((b : Nat) : Int)), (3, .int .i64 ((p : Nat) : Int))]) (.cons rfl (.cons rfl (.cons rfl (.cons rfl .nil)))) ?_
  refine Gx.seq ?_
  refine Gx.region ?_
  refine Gx.val rfl rfl rfl (val_assign rfl rfl) ?_
  refine Gx.val rfl rfl rfl (val_assign rfl rfl) ?_
  refine Gx.done ?_
  refine Gx.thenN ?_
  refine Gx.seq ?_
  obtain ⟨w0, hw⟩ := get_of_lt (xs := xs) (k := a) (by omega)
  refine Gx.regionO (fun j => j == 13) 15 [0, 1, 2, 3, 4, 5, 6, 7, 8, 9, 10, 11, 12, 13, 14] (fun us => match us with | [] => [Hp.own FU 1 v xs, R] | u1 :: _ => [Hp.own FU 1 v (xs.set a pv), R]) Try.mixed (by kernel_rfl) rfl ?_
  refine Gw.val rfl rfl rfl rfl rfl (fun us => val_move rfl rfl) ?_
  refine Gw.val rfl rfl rfl rfl rfl (fun us => val_move rfl rfl) ?_
  refine Gw.val rfl rfl rfl rfl rfl (fun us => val_move rfl rfl) ?_
  refine Gw.val rfl rfl rfl rfl rfl (fun us => val_move rfl rfl) ?_
  refine Gw.val rfl rfl rfl rfl rfl (fun us => val_move rfl rfl) ?_
  refine Gw.val rfl rfl rfl rfl rfl (fun us => val_move rfl rfl) ?_
  refine Gw.val0 rfl rfl rfl (by kernel_rfl) rfl rfl (val_ixa rfl Try.underlying22 Try.ty28 rfl rfl (j := p) (rfl) (reach_own (k := 0) rfl hp)) ?_
  refine Gw.val0 rfl rfl rfl (by kernel_rfl) rfl rfl (val_load rfl Try.ty28 rfl rfl (cell_own (i := 0) (k := 0) rfl hp rfl)) ?_
  refine Gw.val rfl rfl rfl rfl rfl (fun us => val_move rfl rfl) ?_
  refine Gw.val rfl rfl rfl rfl rfl (fun us => val_move rfl rfl) ?_
  obtain ⟨x1, hx1⟩ := get_of_lt (xs := xs.set a pv) (k := a) (by first | omega | (simp; omega))
  refine Gw.val rfl rfl rfl rfl rfl (fun us => match us with | [] => val_ixa rfl Try.underlying22 Try.ty28 rfl rfl (j := a) (rfl) (reach_own (k := 0) rfl hw) | u1 :: _ => val_ixa rfl Try.underlying22 Try.ty28 rfl rfl (j := a) (rfl) (reach_own (k := 0) rfl hx1)) ?_
  refine Gw.val0 rfl rfl rfl (by kernel_rfl) rfl rfl (val_load rfl Try.ty28 rfl rfl (cell_own (i := 0) (k := 0) rfl hw rfl)) ?_
  refine Gw.val0 rfl rfl rfl (by kernel_rfl) rfl rfl (val_ixa rfl Try.underlying22 Try.ty28 rfl rfl (j := a) (rfl) (reach_own (k := 0) rfl hw)) ?_
  refine Gw.chg0 rfl rfl rfl rfl (Eff.mono (eff_storeElA pv rfl Try.ty28 rfl rfl rfl FU_one (k := 0) rfl FU_len hw (l' := [Hp.own FU 1 v (xs.set a pv), R]) rfl) (fun _ _ h => congrArg sep h)) (fun _ => ?_)
  obtain ⟨x2, hx2⟩ := get_of_lt (xs := xs.set a pv) (k := p) (by first | omega | (simp; omega))
  refine Gw.val0 rfl rfl rfl (by kernel_rfl) rfl rfl (val_ixa rfl Try.underlying22 Try.ty28 rfl rfl (j := p) (rfl) (reach_own (k := 0) rfl hx2)) ?_
  refine Gw.done ?_
  refine Gx.norm (l' := [Hp.own FU 1 v (xs.set a pv), R]) rfl ?_
  refine Gx.eff0 rfl rfl (eff_storeElA w0 rfl Try.ty28 rfl rfl rfl FU_one (k := 0) rfl FU_len hx2 (l' := [Hp.own FU 1 v ((xs.set a pv).set p w0), R]) rfl) ?_
  rintro _ _ rfl
  refine Gx.done ?_
  refine Gx.thenN ?_
  refine Gx.seq ?_
  obtain ⟨M, hMe⟩ : ∃ M, M = (xs.set a pv).set p w0 := ⟨_, rfl⟩
  refine Gx.norm (l' := [Hp.own FU 1 v M, R]) (by rw [hMe] <;> rfl) ?_
  have hsh : Sh a b xs M := by rw [hMe]; exact Sh.swap (.refl _) (by omega) (by omega) (by omega) (by omega) hw hp
  have hpv : M[a]? = some pv := by rw [hMe]; exact swap_first hw hp
  have hM := hsh.len
  refine Gx.region ?_
  refine Gx.val rfl rfl rfl (val_move rfl rfl) ?_
  refine Gx.val rfl rfl rfl (val_add rfl rfl rfl (r := ((a + 1 : Nat) : Int)) (w64 (by omega) (by omega))) ?_
  refine Gx.val rfl rfl rfl (val_move rfl rfl) ?_
  refine Gx.val rfl rfl rfl (val_sub rfl rfl rfl (r := ((b - 1 : Nat) : Int)) (w64 (by omega) (by omega))) ?_
  refine Gx.val rfl rfl rfl (val_assign rfl rfl) ?_
  refine Gx.val rfl rfl rfl (val_assign rfl rfl) ?_
  refine Gx.done ?_
  refine Gx.thenN ?_
  refine Gx.seq ?_
  refine Gx.block ?_
  refine Gx.loop (ι := Nat) (fun ξ => (a + 1 ≤ ξ) ∧ (ξ ≤ b - 1 + 1) ∧ (a + 1 ≤ ξ) ∧ (All (fun z => z < pv) (a + 1) ξ M)) (fun ξ => [(0, v), (1, .int .i64 ((a : Nat) : Int)), (10, .int .i64 ((ξ : Nat) : Int)), (11, .int .i64 ((b - 1 : Nat) : Int))]) (fun ξ => [Hp.own FU 1 v M, R]) (fun ξ => b - 1 + 1 - ξ) (a + 1) ⟨by first | omega | (dsimp only; omega), by first | omega | (dsimp only; omega), by first | omega | (dsimp only; omega), fun k z h0 h1 => by first | omega | (dsimp only at h0 h1; omega)⟩ ((.cons rfl (.cons rfl (.cons rfl (.cons rfl .nil))))) rfl ?_
  rintro iq ⟨haiiq, hijiq, hiiiq, hloiq⟩
  refine Gx.know (m' := [(0, v), (1, .int .i64 ((a : Nat) : Int)), (10, .int .i64 ((iq : Nat) : Int)), (11, .int .i64 ((b - 1 : Nat) : Int))]) (.cons rfl (.cons rfl (.cons rfl (.cons rfl .nil)))) (Gx.norm (l' := [Hp.own FU 1 v M, R]) rfl ?_)
  refine Gx.seq ?_
  refine Gx.seq ?_
  refine Gx.regionQ Try.mixed (by kernel_rfl) ?_
  refine Gq.val rfl rfl rfl (val_move rfl rfl) ?_
  refine Gq.val rfl rfl rfl (val_move rfl rfl) ?_
  refine Gq.val rfl rfl rfl (val_leq rfl rfl rfl) ?_
  refine Gq.val rfl rfl rfl (val_move rfl rfl) ?_
  refine Gq.cases (t := 33) rfl (fun h3 => ?_) (fun h3 => ?_)
  · obtain ⟨xiq, hxiq⟩ := get_of_lt (xs := M) (k := iq) (by omega)
    refine Gq.valg rfl rfl rfl rfl rfl (val_move rfl rfl) ?_
    refine Gq.valg rfl rfl rfl rfl rfl (val_move rfl rfl) ?_
    refine Gq.valg rfl rfl rfl rfl rfl (val_ixa rfl Try.underlying22 Try.ty28 rfl rfl (j := iq) (rfl) (reach_own (k := 0) rfl hxiq)) ?_
    refine Gq.valg rfl rfl rfl rfl rfl (val_load rfl Try.ty28 rfl rfl (cell_own (i := 0) (k := 0) rfl hxiq rfl)) ?_
    refine Gq.valg rfl rfl rfl rfl rfl (val_move rfl rfl) ?_
    refine Gq.valg rfl rfl rfl rfl rfl (val_move rfl rfl) ?_
    refine Gq.valg rfl rfl rfl rfl rfl (val_ixa rfl Try.underlying22 Try.ty28 rfl rfl (j := a) (rfl) (reach_own (k := 0) rfl hpv)) ?_
    refine Gq.valg rfl rfl rfl rfl rfl (val_load rfl Try.ty28 rfl rfl (cell_own (i := 0) (k := 0) rfl hpv rfl)) ?_
    refine Gq.valg rfl rfl rfl rfl rfl (val_call (vs := [.int .u32 ((xiq : Nat) : Int), .int .u32 ((pv : Nat) : Int)]) rfl Try.fn47 rfl (fun w H => less_any xiq pv)) ?_
    refine Gq.val rfl rfl rfl (val_pickT rfl rfl rfl) ?_
    refine Gq.done ?_
    refine Gx.thenN ?_
    refine Gx.dec rfl (fun h4 => ?_) (fun h4 => ?_)
    · refine Gx.skip ?_
      refine Gx.thenN ?_
      refine Gx.block ?_
      refine Gx.region ?_
      refine Gx.val rfl rfl rfl (val_move rfl rfl) ?_
      refine Gx.val rfl rfl rfl (val_add rfl rfl rfl (r := ((iq + 1 : Nat) : Int)) (w64 (by omega) (by omega))) ?_
      refine Gx.val rfl rfl rfl (val_assign rfl rfl) ?_
      refine Gx.done ?_
      refine Gx.blkN ?_
      refine Gx.thenN ?_
      exact Gx.round (iq + 1) ⟨by first | omega | (dsimp only; omega), by first | omega | (dsimp only; omega), by first | omega | (dsimp only; omega), hloiq.snoc hxiq (by first | omega | (dsimp only; omega))⟩ (by first | omega | (dsimp only; omega)) ((.cons rfl (.cons rfl (.cons rfl (.cons rfl .nil))))) rfl
    · refine Gx.exit ?_
      refine Gx.thenE ?_
      refine Gx.thenE ?_
      refine Gx.blkE ?_
      refine Gx.thenN ?_
      refine Gx.seq ?_
      refine Gx.block ?_
      refine Gx.loop (ι := Nat) (fun ξ => (ξ + 1 ≤ b) ∧ (iq ≤ ξ + 1) ∧ (ξ ≤ b - 1) ∧ (All (fun z => ¬ z < pv) (ξ + 1) b M)) (fun ξ => [(0, v), (1, .int .i64 ((a : Nat) : Int)), (10, .int .i64 ((iq : Nat) : Int)), (11, .int .i64 ((ξ : Nat) : Int))]) (fun ξ => [Hp.own FU 1 v M, R]) (fun ξ => ξ) (b - 1) ⟨by first | omega | (dsimp only; omega), by first | omega | (dsimp only; omega), by first | omega | (dsimp only; omega), fun k z h0 h1 => by first | omega | (dsimp only at h0 h1; omega)⟩ ((.cons rfl (.cons rfl (.cons rfl (.cons rfl .nil))))) rfl ?_
      rintro jq ⟨hjbjq, hijjq, hjjjq, hhijq⟩
      refine Gx.know (m' := [(0, v), (1, .int .i64 ((a : Nat) : Int)), (10, .int .i64 ((iq : Nat) : Int)), (11, .int .i64 ((jq : Nat) : Int))]) (.cons rfl (.cons rfl (.cons rfl (.cons rfl .nil)))) (Gx.norm (l' := [Hp.own FU 1 v M, R]) rfl ?_)
      refine Gx.seq ?_
      refine Gx.seq ?_
      refine Gx.regionQ Try.mixed (by kernel_rfl) ?_
      refine Gq.val rfl rfl rfl (val_move rfl rfl) ?_
      refine Gq.val rfl rfl rfl (val_move rfl rfl) ?_
      refine Gq.val rfl rfl rfl (val_leq rfl rfl rfl) ?_
      refine Gq.val rfl rfl rfl (val_move rfl rfl) ?_
      refine Gq.cases (t := 49) rfl (fun h5 => ?_) (fun h5 => ?_)
      · obtain ⟨yjq, hyjq⟩ := get_of_lt (xs := M) (k := jq) (by omega)
        refine Gq.valg rfl rfl rfl rfl rfl (val_move rfl rfl) ?_
        refine Gq.valg rfl rfl rfl rfl rfl (val_move rfl rfl) ?_
        refine Gq.valg rfl rfl rfl rfl rfl (val_ixa rfl Try.underlying22 Try.ty28 rfl rfl (j := jq) (rfl) (reach_own (k := 0) rfl hyjq)) ?_
        refine Gq.valg rfl rfl rfl rfl rfl (val_load rfl Try.ty28 rfl rfl (cell_own (i := 0) (k := 0) rfl hyjq rfl)) ?_
        refine Gq.valg rfl rfl rfl rfl rfl (val_move rfl rfl) ?_
        refine Gq.valg rfl rfl rfl rfl rfl (val_move rfl rfl) ?_
        refine Gq.valg rfl rfl rfl rfl rfl (val_ixa rfl Try.underlying22 Try.ty28 rfl rfl (j := a) (rfl) (reach_own (k := 0) rfl hpv)) ?_
        refine Gq.valg rfl rfl rfl rfl rfl (val_load rfl Try.ty28 rfl rfl (cell_own (i := 0) (k := 0) rfl hpv rfl)) ?_
        refine Gq.valg rfl rfl rfl rfl rfl (val_call (vs := [.int .u32 ((yjq : Nat) : Int), .int .u32 ((pv : Nat) : Int)]) rfl Try.fn47 rfl (fun w H => less_any yjq pv)) ?_
        refine Gq.valg rfl rfl rfl rfl rfl (val_notD rfl rfl) ?_
        refine Gq.val rfl rfl rfl (val_pickT rfl rfl rfl) ?_
        refine Gq.done ?_
        refine Gx.thenN ?_
        refine Gx.dec rfl (fun h6 => ?_) (fun h6 => ?_)
        · refine Gx.skip ?_
          refine Gx.thenN ?_
          refine Gx.block ?_
          refine Gx.region ?_
          refine Gx.val rfl rfl rfl (val_move rfl rfl) ?_
          refine Gx.val rfl rfl rfl (val_sub rfl rfl rfl (r := ((jq - 1 : Nat) : Int)) (w64 (by omega) (by omega))) ?_
          refine Gx.val rfl rfl rfl (val_assign rfl rfl) ?_
          refine Gx.done ?_
          refine Gx.blkN ?_
          refine Gx.thenN ?_
          exact Gx.round (jq - 1) ⟨by first | omega | (dsimp only; omega), by first | omega | (dsimp only; omega), by first | omega | (dsimp only; omega), hhijq.cons hyjq (by first | omega | (dsimp only; omega)) (by omega)⟩ (by first | omega | (dsimp only; omega)) ((.cons rfl (.cons rfl (.cons rfl (.cons rfl .nil))))) rfl
        · refine Gx.exit ?_
          refine Gx.thenE ?_
          refine Gx.thenE ?_
          refine Gx.blkE ?_
          refine Gx.thenN ?_
          refine Gx.seq ?_
          refine Gx.seq ?_
          refine Gx.region ?_
          refine Gx.val rfl rfl rfl (val_move rfl rfl) ?_
          refine Gx.val rfl rfl rfl (val_move rfl rfl) ?_
          refine Gx.val rfl rfl rfl (val_gtr rfl rfl rfl) ?_
          refine Gx.done ?_
          refine Gx.thenN ?_
          refine Gx.dec rfl (fun h7 => ?_) (fun h7 => ?_)
          · refine Gx.seq ?_
            obtain ⟨e1, e2, e3⟩ := part_end (fun k z h0 h1 => hloiq k z h0 (by omega)) hhijq hyjq hpv (by omega)
            have hshe := Sh.swap hsh (by omega) (by omega) (by omega) (by omega) hyjq hpv
            refine Gx.regionO (fun j => j == 13) 15 [0, 1, 2, 3, 4, 5, 6, 7, 8, 9, 10, 11, 12, 13, 14] (fun us => match us with | [] => [Hp.own FU 1 v M, R] | u1 :: _ => [Hp.own FU 1 v (M.set jq pv), R]) Try.mixed (by kernel_rfl) rfl ?_
            refine Gw.val rfl rfl rfl rfl rfl (fun us => val_move rfl rfl) ?_
            refine Gw.val rfl rfl rfl rfl rfl (fun us => val_move rfl rfl) ?_
            refine Gw.val rfl rfl rfl rfl rfl (fun us => val_move rfl rfl) ?_
            refine Gw.val rfl rfl rfl rfl rfl (fun us => val_move rfl rfl) ?_
            refine Gw.val rfl rfl rfl rfl rfl (fun us => val_move rfl rfl) ?_
            refine Gw.val rfl rfl rfl rfl rfl (fun us => val_move rfl rfl) ?_
            refine Gw.val0 rfl rfl rfl (by kernel_rfl) rfl rfl (val_ixa rfl Try.underlying22 Try.ty28 rfl rfl (j := a) (rfl) (reach_own (k := 0) rfl hpv)) ?_
            refine Gw.val0 rfl rfl rfl (by kernel_rfl) rfl rfl (val_load rfl Try.ty28 rfl rfl (cell_own (i := 0) (k := 0) rfl hpv rfl)) ?_
            refine Gw.val rfl rfl rfl rfl rfl (fun us => val_move rfl rfl) ?_
            refine Gw.val rfl rfl rfl rfl rfl (fun us => val_move rfl rfl) ?_
            obtain ⟨x8, hx8⟩ := get_of_lt (xs := M.set jq pv) (k := jq) (by first | omega | (simp; omega))
            refine Gw.val rfl rfl rfl rfl rfl (fun us => match us with | [] => val_ixa rfl Try.underlying22 Try.ty28 rfl rfl (j := jq) (rfl) (reach_own (k := 0) rfl hyjq) | u1 :: _ => val_ixa rfl Try.underlying22 Try.ty28 rfl rfl (j := jq) (rfl) (reach_own (k := 0) rfl hx8)) ?_
            refine Gw.val0 rfl rfl rfl (by kernel_rfl) rfl rfl (val_load rfl Try.ty28 rfl rfl (cell_own (i := 0) (k := 0) rfl hyjq rfl)) ?_
            refine Gw.val0 rfl rfl rfl (by kernel_rfl) rfl rfl (val_ixa rfl Try.underlying22 Try.ty28 rfl rfl (j := jq) (rfl) (reach_own (k := 0) rfl hyjq)) ?_
            refine Gw.chg0 rfl rfl rfl rfl (Eff.mono (eff_storeElA pv rfl Try.ty28 rfl rfl rfl FU_one (k := 0) rfl FU_len hyjq (l' := [Hp.own FU 1 v (M.set jq pv), R]) rfl) (fun _ _ h => congrArg sep h)) (fun _ => ?_)
            obtain ⟨x9, hx9⟩ := get_of_lt (xs := M.set jq pv) (k := a) (by first | omega | (simp; omega))
            refine Gw.val0 rfl rfl rfl (by kernel_rfl) rfl rfl (val_ixa rfl Try.underlying22 Try.ty28 rfl rfl (j := a) (rfl) (reach_own (k := 0) rfl hx9)) ?_
            refine Gw.done ?_
            refine Gx.norm (l' := [Hp.own FU 1 v (M.set jq pv), R]) rfl ?_
            refine Gx.eff0 rfl rfl (eff_storeElA yjq rfl Try.ty28 rfl rfl rfl FU_one (k := 0) rfl FU_len hx9 (l' := [Hp.own FU 1 v ((M.set jq pv).set a yjq), R]) rfl) ?_
            rintro _ _ rfl
            refine Gx.done ?_
            refine Gx.thenN ?_
            refine Gx.seq ?_
            refine Gx.region ?_
            refine Gx.val rfl rfl rfl (val_move rfl rfl) ?_
            refine Gx.val rfl rfl rfl (val_assign rfl rfl) ?_
            refine Gx.val rfl rfl rfl (val_assign rfl rfl) ?_
            refine Gx.done ?_
            refine Gx.thenN ?_
            refine Gx.ret ?_
            refine Gx.thenR ?_
            refine Gx.ret2 Try.results49 rfl rfl ?_
            exact ⟨_, _, _, hshe, by omega, by omega, e1, e2, fun k z h0 h1 hz => Nat.not_lt.1 (e3 k z h0 h1 hz), rfl, sep1 _ _⟩
          · refine Gx.skip ?_
            refine Gx.thenN ?_
            refine Gx.seq ?_
            have hlt : iq < jq := by first | (exfalso; omega) | exact part_lt (P := (fun z => z < pv)) (Q := (fun z => ¬ z < pv)) hxiq hyjq (by first | omega | (dsimp only; omega)) (by first | omega | (dsimp only; omega)) (fun z h => by first | omega | (dsimp only at *; omega)) (by omega)
            refine Gx.regionO (fun j => j == 13) 15 [0, 1, 2, 3, 4, 5, 6, 7, 8, 9, 10, 11, 12, 13, 14] (fun us => match us with | [] => [Hp.own FU 1 v M, R] | u1 :: _ => [Hp.own FU 1 v (M.set iq yjq), R]) Try.mixed (by kernel_rfl) rfl ?_
            refine Gw.val rfl rfl rfl rfl rfl (fun us => val_move rfl rfl) ?_
            refine Gw.val rfl rfl rfl rfl rfl (fun us => val_move rfl rfl) ?_
            refine Gw.val rfl rfl rfl rfl rfl (fun us => val_move rfl rfl) ?_
            refine Gw.val rfl rfl rfl rfl rfl (fun us => val_move rfl rfl) ?_
            refine Gw.val rfl rfl rfl rfl rfl (fun us => val_move rfl rfl) ?_
            refine Gw.val rfl rfl rfl rfl rfl (fun us => val_move rfl rfl) ?_
            refine Gw.val0 rfl rfl rfl (by kernel_rfl) rfl rfl (val_ixa rfl Try.underlying22 Try.ty28 rfl rfl (j := jq) (rfl) (reach_own (k := 0) rfl hyjq)) ?_
            refine Gw.val0 rfl rfl rfl (by kernel_rfl) rfl rfl (val_load rfl Try.ty28 rfl rfl (cell_own (i := 0) (k := 0) rfl hyjq rfl)) ?_
            refine Gw.val rfl rfl rfl rfl rfl (fun us => val_move rfl rfl) ?_
            refine Gw.val rfl rfl rfl rfl rfl (fun us => val_move rfl rfl) ?_
            obtain ⟨x10, hx10⟩ := get_of_lt (xs := M.set iq yjq) (k := iq) (by first | omega | (simp; omega))
            refine Gw.val rfl rfl rfl rfl rfl (fun us => match us with | [] => val_ixa rfl Try.underlying22 Try.ty28 rfl rfl (j := iq) (rfl) (reach_own (k := 0) rfl hxiq) | u1 :: _ => val_ixa rfl Try.underlying22 Try.ty28 rfl rfl (j := iq) (rfl) (reach_own (k := 0) rfl hx10)) ?_
            refine Gw.val0 rfl rfl rfl (by kernel_rfl) rfl rfl (val_load rfl Try.ty28 rfl rfl (cell_own (i := 0) (k := 0) rfl hxiq rfl)) ?_
            refine Gw.val0 rfl rfl rfl (by kernel_rfl) rfl rfl (val_ixa rfl Try.underlying22 Try.ty28 rfl rfl (j := iq) (rfl) (reach_own (k := 0) rfl hxiq)) ?_
            refine Gw.chg0 rfl rfl rfl rfl (Eff.mono (eff_storeElA yjq rfl Try.ty28 rfl rfl rfl FU_one (k := 0) rfl FU_len hxiq (l' := [Hp.own FU 1 v (M.set iq yjq), R]) rfl) (fun _ _ h => congrArg sep h)) (fun _ => ?_)
            obtain ⟨x11, hx11⟩ := get_of_lt (xs := M.set iq yjq) (k := jq) (by first | omega | (simp; omega))
            refine Gw.val0 rfl rfl rfl (by kernel_rfl) rfl rfl (val_ixa rfl Try.underlying22 Try.ty28 rfl rfl (j := jq) (rfl) (reach_own (k := 0) rfl hx11)) ?_
            refine Gw.done ?_
            refine Gx.norm (l' := [Hp.own FU 1 v (M.set iq yjq), R]) rfl ?_
            refine Gx.eff0 rfl rfl (eff_storeElA xiq rfl Try.ty28 rfl rfl rfl FU_one (k := 0) rfl FU_len hx11 (l' := [Hp.own FU 1 v ((M.set iq yjq).set jq xiq), R]) rfl) ?_
            rintro _ _ rfl
            refine Gx.done ?_
            refine Gx.thenN ?_
            refine Gx.seq ?_
            refine Gx.region ?_
            refine Gx.val rfl rfl rfl (val_move rfl rfl) ?_
            refine Gx.val rfl rfl rfl (val_add rfl rfl rfl (r := ((iq + 1 : Nat) : Int)) (w64 (by omega) (by omega))) ?_
            refine Gx.val rfl rfl rfl (val_assign rfl rfl) ?_
            refine Gx.done ?_
            refine Gx.thenN ?_
            refine Gx.seq ?_
            refine Gx.region ?_
            refine Gx.val rfl rfl rfl (val_move rfl rfl) ?_
            refine Gx.val rfl rfl rfl (val_sub rfl rfl rfl (r := ((jq - 1 : Nat) : Int)) (w64 (by omega) (by omega))) ?_
            refine Gx.val rfl rfl rfl (val_assign rfl rfl) ?_
            refine Gx.done ?_
            refine Gx.thenN ?_
            refine Gx.seq ?_
            refine Gx.block ?_
            refine Gx.loop (ι := Nat × Nat × (List Nat)) (fun ξ => (a + 1 ≤ ξ.1) ∧ (ξ.1 ≤ ξ.2.1 + 1) ∧ (ξ.2.1 + 1 ≤ b) ∧ (Sh a b xs ξ.2.2) ∧ (ξ.2.2[a]? = some pv) ∧ (All (fun z => z < pv) (a + 1) ξ.1 ξ.2.2) ∧ (All (fun z => ¬ z < pv) (ξ.2.1 + 1) b ξ.2.2)) (fun ξ => [(0, v), (1, .int .i64 ((a : Nat) : Int)), (10, .int .i64 ((ξ.1 : Nat) : Int)), (11, .int .i64 ((ξ.2.1 : Nat) : Int))]) (fun ξ => [Hp.own FU 1 v ξ.2.2, R]) (fun ξ => ξ.2.1 + 1 - ξ.1) (iq + 1, jq - 1, (M.set iq yjq).set jq xiq) ⟨by first | omega | (dsimp only; omega), by first | omega | (dsimp only; omega), by first | omega | (dsimp only; omega), Sh.swap hsh (by omega) (by omega) (by omega) (by omega) hxiq hyjq, part_keep hpv hxiq hyjq (by omega) (by omega), part_lo hloiq hxiq hyjq (by first | omega | (exfalso; omega) | (dsimp only; omega)) hlt, part_hi hhijq hxiq hyjq (by first | omega | (exfalso; omega) | (dsimp only; omega)) hlt⟩ ((.cons rfl (.cons rfl (.cons rfl (.cons rfl .nil))))) rfl ?_
            rintro ⟨k, l, M2⟩ ⟨hai, hij, hjb, hsh2, hpv2, hlo, hhi⟩
            dsimp only at hai hij hjb hsh2 hpv2 hlo hhi
            refine Gx.know (m' := [(0, v), (1, .int .i64 ((a : Nat) : Int)), (10, .int .i64 ((k : Nat) : Int)), (11, .int .i64 ((l : Nat) : Int))]) (.cons rfl (.cons rfl (.cons rfl (.cons rfl .nil)))) (Gx.norm (l' := [Hp.own FU 1 v M2, R]) rfl ?_)
            have hM2 := hsh2.len
            refine Gx.block ?_
            refine Gx.seq ?_
            refine Gx.block ?_
            refine Gx.loop (ι := Nat) (fun ξ => (a + 1 ≤ ξ) ∧ (ξ ≤ l + 1) ∧ (k ≤ ξ) ∧ (All (fun z => z < pv) (a + 1) ξ M2)) (fun ξ => [(0, v), (1, .int .i64 ((a : Nat) : Int)), (10, .int .i64 ((ξ : Nat) : Int)), (11, .int .i64 ((l : Nat) : Int))]) (fun ξ => [Hp.own FU 1 v M2, R]) (fun ξ => l + 1 - ξ) k ⟨by first | omega | (dsimp only; omega), by first | omega | (dsimp only; omega), by first | omega | (dsimp only; omega), hlo⟩ ((.cons rfl (.cons rfl (.cons rfl (.cons rfl .nil))))) rfl ?_
            rintro kq ⟨haikq, hijkq, hiikq, hlokq⟩
            refine Gx.know (m' := [(0, v), (1, .int .i64 ((a : Nat) : Int)), (10, .int .i64 ((kq : Nat) : Int)), (11, .int .i64 ((l : Nat) : Int))]) (.cons rfl (.cons rfl (.cons rfl (.cons rfl .nil)))) (Gx.norm (l' := [Hp.own FU 1 v M2, R]) rfl ?_)
            refine Gx.seq ?_
            refine Gx.seq ?_
            refine Gx.regionQ Try.mixed (by kernel_rfl) ?_
            refine Gq.val rfl rfl rfl (val_move rfl rfl) ?_
            refine Gq.val rfl rfl rfl (val_move rfl rfl) ?_
            refine Gq.val rfl rfl rfl (val_leq rfl rfl rfl) ?_
            refine Gq.val rfl rfl rfl (val_move rfl rfl) ?_
            refine Gq.cases (t := 102) rfl (fun h12 => ?_) (fun h12 => ?_)
            · obtain ⟨xkq, hxkq⟩ := get_of_lt (xs := M2) (k := kq) (by omega)
              refine Gq.valg rfl rfl rfl rfl rfl (val_move rfl rfl) ?_
              refine Gq.valg rfl rfl rfl rfl rfl (val_move rfl rfl) ?_
              refine Gq.valg rfl rfl rfl rfl rfl (val_ixa rfl Try.underlying22 Try.ty28 rfl rfl (j := kq) (rfl) (reach_own (k := 0) rfl hxkq)) ?_
              refine Gq.valg rfl rfl rfl rfl rfl (val_load rfl Try.ty28 rfl rfl (cell_own (i := 0) (k := 0) rfl hxkq rfl)) ?_
              refine Gq.valg rfl rfl rfl rfl rfl (val_move rfl rfl) ?_
              refine Gq.valg rfl rfl rfl rfl rfl (val_move rfl rfl) ?_
              refine Gq.valg rfl rfl rfl rfl rfl (val_ixa rfl Try.underlying22 Try.ty28 rfl rfl (j := a) (rfl) (reach_own (k := 0) rfl hpv2)) ?_
              refine Gq.valg rfl rfl rfl rfl rfl (val_load rfl Try.ty28 rfl rfl (cell_own (i := 0) (k := 0) rfl hpv2 rfl)) ?_
              refine Gq.valg rfl rfl rfl rfl rfl (val_call (vs := [.int .u32 ((xkq : Nat) : Int), .int .u32 ((pv : Nat) : Int)]) rfl Try.fn47 rfl (fun w H => less_any xkq pv)) ?_
              refine Gq.val rfl rfl rfl (val_pickT rfl rfl rfl) ?_
              refine Gq.done ?_
              refine Gx.thenN ?_
              refine Gx.dec rfl (fun h13 => ?_) (fun h13 => ?_)
              · refine Gx.skip ?_
                refine Gx.thenN ?_
                refine Gx.block ?_
                refine Gx.region ?_
                refine Gx.val rfl rfl rfl (val_move rfl rfl) ?_
                refine Gx.val rfl rfl rfl (val_add rfl rfl rfl (r := ((kq + 1 : Nat) : Int)) (w64 (by omega) (by omega))) ?_
                refine Gx.val rfl rfl rfl (val_assign rfl rfl) ?_
                refine Gx.done ?_
                refine Gx.blkN ?_
                refine Gx.thenN ?_
                exact Gx.round (kq + 1) ⟨by first | omega | (dsimp only; omega), by first | omega | (dsimp only; omega), by first | omega | (dsimp only; omega), hlokq.snoc hxkq (by first | omega | (dsimp only; omega))⟩ (by first | omega | (dsimp only; omega)) ((.cons rfl (.cons rfl (.cons rfl (.cons rfl .nil))))) rfl
              · refine Gx.exit ?_
                refine Gx.thenE ?_
                refine Gx.thenE ?_
                refine Gx.blkE ?_
                refine Gx.thenN ?_
                refine Gx.seq ?_
                refine Gx.block ?_
                refine Gx.loop (ι := Nat) (fun ξ => (ξ + 1 ≤ b) ∧ (kq ≤ ξ + 1) ∧ (ξ ≤ l) ∧ (All (fun z => ¬ z < pv) (ξ + 1) b M2)) (fun ξ => [(0, v), (1, .int .i64 ((a : Nat) : Int)), (10, .int .i64 ((kq : Nat) : Int)), (11, .int .i64 ((ξ : Nat) : Int))]) (fun ξ => [Hp.own FU 1 v M2, R]) (fun ξ => ξ) l ⟨by first | omega | (dsimp only; omega), by first | omega | (dsimp only; omega), by first | omega | (dsimp only; omega), hhi⟩ ((.cons rfl (.cons rfl (.cons rfl (.cons rfl .nil))))) rfl ?_
                rintro lq ⟨hjblq, hijlq, hjjlq, hhilq⟩
                refine Gx.know (m' := [(0, v), (1, .int .i64 ((a : Nat) : Int)), (10, .int .i64 ((kq : Nat) : Int)), (11, .int .i64 ((lq : Nat) : Int))]) (.cons rfl (.cons rfl (.cons rfl (.cons rfl .nil)))) (Gx.norm (l' := [Hp.own FU 1 v M2, R]) rfl ?_)
                refine Gx.seq ?_
                refine Gx.seq ?_
                refine Gx.regionQ Try.mixed (by kernel_rfl) ?_
                refine Gq.val rfl rfl rfl (val_move rfl rfl) ?_
                refine Gq.val rfl rfl rfl (val_move rfl rfl) ?_
                refine Gq.val rfl rfl rfl (val_leq rfl rfl rfl) ?_
                refine Gq.val rfl rfl rfl (val_move rfl rfl) ?_
                refine Gq.cases (t := 118) rfl (fun h14 => ?_) (fun h14 => ?_)
                · obtain ⟨ylq, hylq⟩ := get_of_lt (xs := M2) (k := lq) (by omega)
                  refine Gq.valg rfl rfl rfl rfl rfl (val_move rfl rfl) ?_
                  refine Gq.valg rfl rfl rfl rfl rfl (val_move rfl rfl) ?_
                  refine Gq.valg rfl rfl rfl rfl rfl (val_ixa rfl Try.underlying22 Try.ty28 rfl rfl (j := lq) (rfl) (reach_own (k := 0) rfl hylq)) ?_
                  refine Gq.valg rfl rfl rfl rfl rfl (val_load rfl Try.ty28 rfl rfl (cell_own (i := 0) (k := 0) rfl hylq rfl)) ?_
                  refine Gq.valg rfl rfl rfl rfl rfl (val_move rfl rfl) ?_
                  refine Gq.valg rfl rfl rfl rfl rfl (val_move rfl rfl) ?_
                  refine Gq.valg rfl rfl rfl rfl rfl (val_ixa rfl Try.underlying22 Try.ty28 rfl rfl (j := a) (rfl) (reach_own (k := 0) rfl hpv2)) ?_
                  refine Gq.valg rfl rfl rfl rfl rfl (val_load rfl Try.ty28 rfl rfl (cell_own (i := 0) (k := 0) rfl hpv2 rfl)) ?_
                  refine Gq.valg rfl rfl rfl rfl rfl (val_call (vs := [.int .u32 ((ylq : Nat) : Int), .int .u32 ((pv : Nat) : Int)]) rfl Try.fn47 rfl (fun w H => less_any ylq pv)) ?_
                  refine Gq.valg rfl rfl rfl rfl rfl (val_notD rfl rfl) ?_
                  refine Gq.val rfl rfl rfl (val_pickT rfl rfl rfl) ?_
                  refine Gq.done ?_
                  refine Gx.thenN ?_
                  refine Gx.dec rfl (fun h15 => ?_) (fun h15 => ?_)
                  · refine Gx.skip ?_
                    refine Gx.thenN ?_
                    refine Gx.block ?_
                    refine Gx.region ?_
                    refine Gx.val rfl rfl rfl (val_move rfl rfl) ?_
                    refine Gx.val rfl rfl rfl (val_sub rfl rfl rfl (r := ((lq - 1 : Nat) : Int)) (w64 (by omega) (by omega))) ?_
                    refine Gx.val rfl rfl rfl (val_assign rfl rfl) ?_
                    refine Gx.done ?_
                    refine Gx.blkN ?_
                    refine Gx.thenN ?_
                    exact Gx.round (lq - 1) ⟨by first | omega | (dsimp only; omega), by first | omega | (dsimp only; omega), by first | omega | (dsimp only; omega), hhilq.cons hylq (by first | omega | (dsimp only; omega)) (by omega)⟩ (by first | omega | (dsimp only; omega)) ((.cons rfl (.cons rfl (.cons rfl (.cons rfl .nil))))) rfl
                  · refine Gx.exit ?_
                    refine Gx.thenE ?_
                    refine Gx.thenE ?_
                    refine Gx.blkE ?_
                    refine Gx.thenN ?_
                    refine Gx.seq ?_
                    refine Gx.seq ?_
                    refine Gx.region ?_
                    refine Gx.val rfl rfl rfl (val_move rfl rfl) ?_
                    refine Gx.val rfl rfl rfl (val_move rfl rfl) ?_
                    refine Gx.val rfl rfl rfl (val_gtr rfl rfl rfl) ?_
                    refine Gx.done ?_
                    refine Gx.thenN ?_
                    refine Gx.dec rfl (fun h16 => ?_) (fun h16 => ?_)
                    · refine Gx.exit ?_
                      refine Gx.thenE ?_
                      refine Gx.blkO rfl ?_
                      refine Gx.thenE ?_
                      refine Gx.blkE ?_
                      refine Gx.thenN ?_
                      refine Gx.seq ?_
                      obtain ⟨e1, e2, e3⟩ := part_end (fun k z h0 h1 => hlokq k z h0 (by omega)) hhilq hylq hpv2 (by omega)
                      have hshe := Sh.swap hsh2 (by omega) (by omega) (by omega) (by omega) hylq hpv2
                      refine Gx.regionO (fun j => j == 13) 15 [0, 1, 2, 3, 4, 5, 6, 7, 8, 9, 10, 11, 12, 13, 14] (fun us => match us with | [] => [Hp.own FU 1 v M2, R] | u1 :: _ => [Hp.own FU 1 v (M2.set lq pv), R]) Try.mixed (by kernel_rfl) rfl ?_
                      refine Gw.val rfl rfl rfl rfl rfl (fun us => val_move rfl rfl) ?_
                      refine Gw.val rfl rfl rfl rfl rfl (fun us => val_move rfl rfl) ?_
                      refine Gw.val rfl rfl rfl rfl rfl (fun us => val_move rfl rfl) ?_
                      refine Gw.val rfl rfl rfl rfl rfl (fun us => val_move rfl rfl) ?_
                      refine Gw.val rfl rfl rfl rfl rfl (fun us => val_move rfl rfl) ?_
                      refine Gw.val rfl rfl rfl rfl rfl (fun us => val_move rfl rfl) ?_
                      refine Gw.val0 rfl rfl rfl (by kernel_rfl) rfl rfl (val_ixa rfl Try.underlying22 Try.ty28 rfl rfl (j := a) (rfl) (reach_own (k := 0) rfl hpv2)) ?_
                      refine Gw.val0 rfl rfl rfl (by kernel_rfl) rfl rfl (val_load rfl Try.ty28 rfl rfl (cell_own (i := 0) (k := 0) rfl hpv2 rfl)) ?_
                      refine Gw.val rfl rfl rfl rfl rfl (fun us => val_move rfl rfl) ?_
                      refine Gw.val rfl rfl rfl rfl rfl (fun us => val_move rfl rfl) ?_
                      obtain ⟨x17, hx17⟩ := get_of_lt (xs := M2.set lq pv) (k := lq) (by first | omega | (simp; omega))
                      refine Gw.val rfl rfl rfl rfl rfl (fun us => match us with | [] => val_ixa rfl Try.underlying22 Try.ty28 rfl rfl (j := lq) (rfl) (reach_own (k := 0) rfl hylq) | u1 :: _ => val_ixa rfl Try.underlying22 Try.ty28 rfl rfl (j := lq) (rfl) (reach_own (k := 0) rfl hx17)) ?_
                      refine Gw.val0 rfl rfl rfl (by kernel_rfl) rfl rfl (val_load rfl Try.ty28 rfl rfl (cell_own (i := 0) (k := 0) rfl hylq rfl)) ?_
                      refine Gw.val0 rfl rfl rfl (by kernel_rfl) rfl rfl (val_ixa rfl Try.underlying22 Try.ty28 rfl rfl (j := lq) (rfl) (reach_own (k := 0) rfl hylq)) ?_
                      refine Gw.chg0 rfl rfl rfl rfl (Eff.mono (eff_storeElA pv rfl Try.ty28 rfl rfl rfl FU_one (k := 0) rfl FU_len hylq (l' := [Hp.own FU 1 v (M2.set lq pv), R]) rfl) (fun _ _ h => congrArg sep h)) (fun _ => ?_)
                      obtain ⟨x18, hx18⟩ := get_of_lt (xs := M2.set lq pv) (k := a) (by first | omega | (simp; omega))
                      refine Gw.val0 rfl rfl rfl (by kernel_rfl) rfl rfl (val_ixa rfl Try.underlying22 Try.ty28 rfl rfl (j := a) (rfl) (reach_own (k := 0) rfl hx18)) ?_
                      refine Gw.done ?_
                      refine Gx.norm (l' := [Hp.own FU 1 v (M2.set lq pv), R]) rfl ?_
                      refine Gx.eff0 rfl rfl (eff_storeElA ylq rfl Try.ty28 rfl rfl rfl FU_one (k := 0) rfl FU_len hx18 (l' := [Hp.own FU 1 v ((M2.set lq pv).set a ylq), R]) rfl) ?_
                      rintro _ _ rfl
                      refine Gx.done ?_
                      refine Gx.thenN ?_
                      refine Gx.seq ?_
                      refine Gx.region ?_
                      refine Gx.val rfl rfl rfl (val_move rfl rfl) ?_
                      refine Gx.val rfl rfl rfl (val_assign rfl rfl) ?_
                      refine Gx.val rfl rfl rfl (val_assign rfl rfl) ?_
                      refine Gx.done ?_
                      refine Gx.thenN ?_
                      refine Gx.ret ?_
                      refine Gx.ret2 Try.results49 rfl rfl ?_
                      exact ⟨_, _, _, hshe, by omega, by omega, e1, e2, fun k z h0 h1 hz => Nat.not_lt.1 (e3 k z h0 h1 hz), rfl, sep1 _ _⟩
                    · refine Gx.skip ?_
                      refine Gx.thenN ?_
                      refine Gx.seq ?_
                      have hlt : kq < lq := by first | (exfalso; omega) | exact part_lt (P := (fun z => z < pv)) (Q := (fun z => ¬ z < pv)) hxkq hylq (by first | omega | (dsimp only; omega)) (by first | omega | (dsimp only; omega)) (fun z h => by first | omega | (dsimp only at *; omega)) (by omega)
                      refine Gx.regionO (fun j => j == 13) 15 [0, 1, 2, 3, 4, 5, 6, 7, 8, 9, 10, 11, 12, 13, 14] (fun us => match us with | [] => [Hp.own FU 1 v M2, R] | u1 :: _ => [Hp.own FU 1 v (M2.set kq ylq), R]) Try.mixed (by kernel_rfl) rfl ?_
                      refine Gw.val rfl rfl rfl rfl rfl (fun us => val_move rfl rfl) ?_
                      refine Gw.val rfl rfl rfl rfl rfl (fun us => val_move rfl rfl) ?_
                      refine Gw.val rfl rfl rfl rfl rfl (fun us => val_move rfl rfl) ?_
                      refine Gw.val rfl rfl rfl rfl rfl (fun us => val_move rfl rfl) ?_
                      refine Gw.val rfl rfl rfl rfl rfl (fun us => val_move rfl rfl) ?_
                      refine Gw.val rfl rfl rfl rfl rfl (fun us => val_move rfl rfl) ?_
                      refine Gw.val0 rfl rfl rfl (by kernel_rfl) rfl rfl (val_ixa rfl Try.underlying22 Try.ty28 rfl rfl (j := lq) (rfl) (reach_own (k := 0) rfl hylq)) ?_
                      refine Gw.val0 rfl rfl rfl (by kernel_rfl) rfl rfl (val_load rfl Try.ty28 rfl rfl (cell_own (i := 0) (k := 0) rfl hylq rfl)) ?_
                      refine Gw.val rfl rfl rfl rfl rfl (fun us => val_move rfl rfl) ?_
                      refine Gw.val rfl rfl rfl rfl rfl (fun us => val_move rfl rfl) ?_
                      obtain ⟨x19, hx19⟩ := get_of_lt (xs := M2.set kq ylq) (k := kq) (by first | omega | (simp; omega))
                      refine Gw.val rfl rfl rfl rfl rfl (fun us => match us with | [] => val_ixa rfl Try.underlying22 Try.ty28 rfl rfl (j := kq) (rfl) (reach_own (k := 0) rfl hxkq) | u1 :: _ => val_ixa rfl Try.underlying22 Try.ty28 rfl rfl (j := kq) (rfl) (reach_own (k := 0) rfl hx19)) ?_
                      refine Gw.val0 rfl rfl rfl (by kernel_rfl) rfl rfl (val_load rfl Try.ty28 rfl rfl (cell_own (i := 0) (k := 0) rfl hxkq rfl)) ?_
                      refine Gw.val0 rfl rfl rfl (by kernel_rfl) rfl rfl (val_ixa rfl Try.underlying22 Try.ty28 rfl rfl (j := kq) (rfl) (reach_own (k := 0) rfl hxkq)) ?_
                      refine Gw.chg0 rfl rfl rfl rfl (Eff.mono (eff_storeElA ylq rfl Try.ty28 rfl rfl rfl FU_one (k := 0) rfl FU_len hxkq (l' := [Hp.own FU 1 v (M2.set kq ylq), R]) rfl) (fun _ _ h => congrArg sep h)) (fun _ => ?_)
                      obtain ⟨x20, hx20⟩ := get_of_lt (xs := M2.set kq ylq) (k := lq) (by first | omega | (simp; omega))
                      refine Gw.val0 rfl rfl rfl (by kernel_rfl) rfl rfl (val_ixa rfl Try.underlying22 Try.ty28 rfl rfl (j := lq) (rfl) (reach_own (k := 0) rfl hx20)) ?_
                      refine Gw.done ?_
                      refine Gx.norm (l' := [Hp.own FU 1 v (M2.set kq ylq), R]) rfl ?_
                      refine Gx.eff0 rfl rfl (eff_storeElA xkq rfl Try.ty28 rfl rfl rfl FU_one (k := 0) rfl FU_len hx20 (l' := [Hp.own FU 1 v ((M2.set kq ylq).set lq xkq), R]) rfl) ?_
                      rintro _ _ rfl
                      refine Gx.done ?_
                      refine Gx.thenN ?_
                      refine Gx.seq ?_
                      refine Gx.region ?_
                      refine Gx.val rfl rfl rfl (val_move rfl rfl) ?_
                      refine Gx.val rfl rfl rfl (val_add rfl rfl rfl (r := ((kq + 1 : Nat) : Int)) (w64 (by omega) (by omega))) ?_
                      refine Gx.val rfl rfl rfl (val_assign rfl rfl) ?_
                      refine Gx.done ?_
                      refine Gx.thenN ?_
                      refine Gx.region ?_
                      refine Gx.val rfl rfl rfl (val_move rfl rfl) ?_
                      refine Gx.val rfl rfl rfl (val_sub rfl rfl rfl (r := ((lq - 1 : Nat) : Int)) (w64 (by omega) (by omega))) ?_
                      refine Gx.val rfl rfl rfl (val_assign rfl rfl) ?_
                      refine Gx.done ?_
                      refine Gx.blkN ?_
                      refine Gx.thenN ?_
                      exact Gx.round (kq + 1, lq - 1, (M2.set kq ylq).set lq xkq) ⟨by first | omega | (dsimp only; omega), by first | omega | (dsimp only; omega), by first | omega | (dsimp only; omega), Sh.swap hsh2 (by omega) (by omega) (by omega) (by omega) hxkq hylq, part_keep hpv2 hxkq hylq (by omega) (by omega), part_lo hlokq hxkq hylq (by first | omega | (exfalso; omega) | (dsimp only; omega)) hlt, part_hi hhilq hxkq hylq (by first | omega | (exfalso; omega) | (dsimp only; omega)) hlt⟩ (by first | omega | (dsimp only; omega)) ((.cons rfl (.cons rfl (.cons rfl (.cons rfl .nil))))) rfl
                · refine Gq.skipg rfl rfl rfl rfl rfl rfl ?_
                  refine Gq.skipg rfl rfl rfl rfl rfl rfl ?_
                  refine Gq.skipg rfl rfl rfl rfl rfl rfl ?_
                  refine Gq.skipg rfl rfl rfl rfl rfl rfl ?_
                  refine Gq.skipg rfl rfl rfl rfl rfl rfl ?_
                  refine Gq.skipg rfl rfl rfl rfl rfl rfl ?_
                  refine Gq.skipg rfl rfl rfl rfl rfl rfl ?_
                  refine Gq.skipg rfl rfl rfl rfl rfl rfl ?_
                  refine Gq.skipg rfl rfl rfl rfl rfl rfl ?_
                  refine Gq.skipg rfl rfl rfl rfl rfl rfl ?_
                  refine Gq.val rfl rfl rfl (val_pickF rfl rfl rfl) ?_
                  refine Gq.done ?_
                  refine Gx.thenN ?_
                  refine Gx.f rfl ?_
                  refine Gx.exit ?_
                  refine Gx.thenE ?_
                  refine Gx.thenE ?_
                  refine Gx.blkE ?_
                  refine Gx.thenN ?_
                  refine Gx.seq ?_
                  refine Gx.seq ?_
                  refine Gx.region ?_
                  refine Gx.val rfl rfl rfl (val_move rfl rfl) ?_
                  refine Gx.val rfl rfl rfl (val_move rfl rfl) ?_
                  refine Gx.val rfl rfl rfl (val_gtr rfl rfl rfl) ?_
                  refine Gx.done ?_
                  refine Gx.thenN ?_
                  refine Gx.dec rfl (fun h21 => ?_) (fun h21 => ?_)
                  · refine Gx.exit ?_
                    refine Gx.thenE ?_
                    refine Gx.blkO rfl ?_
                    refine Gx.thenE ?_
                    refine Gx.blkE ?_
                    refine Gx.thenN ?_
                    refine Gx.seq ?_
                    obtain ⟨ylq, hylq⟩ := get_of_lt (xs := M2) (k := lq) (by omega)
                    obtain ⟨e1, e2, e3⟩ := part_end (fun k z h0 h1 => hlokq k z h0 (by omega)) hhilq hylq hpv2 (by omega)
                    have hshe := Sh.swap hsh2 (by omega) (by omega) (by omega) (by omega) hylq hpv2
                    refine Gx.regionO (fun j => j == 13) 15 [0, 1, 2, 3, 4, 5, 6, 7, 8, 9, 10, 11, 12, 13, 14] (fun us => match us with | [] => [Hp.own FU 1 v M2, R] | u1 :: _ => [Hp.own FU 1 v (M2.set lq pv), R]) Try.mixed (by kernel_rfl) rfl ?_
                    refine Gw.val rfl rfl rfl rfl rfl (fun us => val_move rfl rfl) ?_
                    refine Gw.val rfl rfl rfl rfl rfl (fun us => val_move rfl rfl) ?_
                    refine Gw.val rfl rfl rfl rfl rfl (fun us => val_move rfl rfl) ?_
                    refine Gw.val rfl rfl rfl rfl rfl (fun us => val_move rfl rfl) ?_
                    refine Gw.val rfl rfl rfl rfl rfl (fun us => val_move rfl rfl) ?_
                    refine Gw.val rfl rfl rfl rfl rfl (fun us => val_move rfl rfl) ?_
                    refine Gw.val0 rfl rfl rfl (by kernel_rfl) rfl rfl (val_ixa rfl Try.underlying22 Try.ty28 rfl rfl (j := a) (rfl) (reach_own (k := 0) rfl hpv2)) ?_
                    refine Gw.val0 rfl rfl rfl (by kernel_rfl) rfl rfl (val_load rfl Try.ty28 rfl rfl (cell_own (i := 0) (k := 0) rfl hpv2 rfl)) ?_
                    refine Gw.val rfl rfl rfl rfl rfl (fun us => val_move rfl rfl) ?_
                    refine Gw.val rfl rfl rfl rfl rfl (fun us => val_move rfl rfl) ?_
                    obtain ⟨x22, hx22⟩ := get_of_lt (xs := M2.set lq pv) (k := lq) (by first | omega | (simp; omega))
                    refine Gw.val rfl rfl rfl rfl rfl (fun us => match us with | [] => val_ixa rfl Try.underlying22 Try.ty28 rfl rfl (j := lq) (rfl) (reach_own (k := 0) rfl hylq) | u1 :: _ => val_ixa rfl Try.underlying22 Try.ty28 rfl rfl (j := lq) (rfl) (reach_own (k := 0) rfl hx22)) ?_
                    refine Gw.val0 rfl rfl rfl (by kernel_rfl) rfl rfl (val_load rfl Try.ty28 rfl rfl (cell_own (i := 0) (k := 0) rfl hylq rfl)) ?_
                    refine Gw.val0 rfl rfl rfl (by kernel_rfl) rfl rfl (val_ixa rfl Try.underlying22 Try.ty28 rfl rfl (j := lq) (rfl) (reach_own (k := 0) rfl hylq)) ?_
                    refine Gw.chg0 rfl rfl rfl rfl (Eff.mono (eff_storeElA pv rfl Try.ty28 rfl rfl rfl FU_one (k := 0) rfl FU_len hylq (l' := [Hp.own FU 1 v (M2.set lq pv), R]) rfl) (fun _ _ h => congrArg sep h)) (fun _ => ?_)
                    obtain ⟨x23, hx23⟩ := get_of_lt (xs := M2.set lq pv) (k := a) (by first | omega | (simp; omega))
                    refine Gw.val0 rfl rfl rfl (by kernel_rfl) rfl rfl (val_ixa rfl Try.underlying22 Try.ty28 rfl rfl (j := a) (rfl) (reach_own (k := 0) rfl hx23)) ?_
                    refine Gw.done ?_
                    refine Gx.norm (l' := [Hp.own FU 1 v (M2.set lq pv), R]) rfl ?_
                    refine Gx.eff0 rfl rfl (eff_storeElA ylq rfl Try.ty28 rfl rfl rfl FU_one (k := 0) rfl FU_len hx23 (l' := [Hp.own FU 1 v ((M2.set lq pv).set a ylq), R]) rfl) ?_
                    rintro _ _ rfl
                    refine Gx.done ?_
                    refine Gx.thenN ?_
                    refine Gx.seq ?_
                    refine Gx.region ?_
                    refine Gx.val rfl rfl rfl (val_move rfl rfl) ?_
                    refine Gx.val rfl rfl rfl (val_assign rfl rfl) ?_
                    refine Gx.val rfl rfl rfl (val_assign rfl rfl) ?_
                    refine Gx.done ?_
                    refine Gx.thenN ?_
                    refine Gx.ret ?_
                    refine Gx.ret2 Try.results49 rfl rfl ?_
                    exact ⟨_, _, _, hshe, by omega, by omega, e1, e2, fun k z h0 h1 hz => Nat.not_lt.1 (e3 k z h0 h1 hz), rfl, sep1 _ _⟩
                  · refine Gx.skip ?_
                    refine Gx.thenN ?_
                    refine Gx.seq ?_
                    obtain ⟨ylq, hylq⟩ := get_of_lt (xs := M2) (k := lq) (by omega)
                    have hlt : kq < lq := by first | (exfalso; omega) | exact part_lt (P := (fun z => z < pv)) (Q := (fun z => ¬ z < pv)) hxkq hylq (by first | omega | (dsimp only; omega)) (by first | omega | (dsimp only; omega)) (fun z h => by first | omega | (dsimp only at *; omega)) (by omega)
                    refine Gx.regionO (fun j => j == 13) 15 [0, 1, 2, 3, 4, 5, 6, 7, 8, 9, 10, 11, 12, 13, 14] (fun us => match us with | [] => [Hp.own FU 1 v M2, R] | u1 :: _ => [Hp.own FU 1 v (M2.set kq ylq), R]) Try.mixed (by kernel_rfl) rfl ?_
                    refine Gw.val rfl rfl rfl rfl rfl (fun us => val_move rfl rfl) ?_
                    refine Gw.val rfl rfl rfl rfl rfl (fun us => val_move rfl rfl) ?_
                    refine Gw.val rfl rfl rfl rfl rfl (fun us => val_move rfl rfl) ?_
                    refine Gw.val rfl rfl rfl rfl rfl (fun us => val_move rfl rfl) ?_
                    refine Gw.val rfl rfl rfl rfl rfl (fun us => val_move rfl rfl) ?_
                    refine Gw.val rfl rfl rfl rfl rfl (fun us => val_move rfl rfl) ?_
                    refine Gw.val0 rfl rfl rfl (by kernel_rfl) rfl rfl (val_ixa rfl Try.underlying22 Try.ty28 rfl rfl (j := lq) (rfl) (reach_own (k := 0) rfl hylq)) ?_
                    refine Gw.val0 rfl rfl rfl (by kernel_rfl) rfl rfl (val_load rfl Try.ty28 rfl rfl (cell_own (i := 0) (k := 0) rfl hylq rfl)) ?_
                    refine Gw.val rfl rfl rfl rfl rfl (fun us => val_move rfl rfl) ?_
                    refine Gw.val rfl rfl rfl rfl rfl (fun us => val_move rfl rfl) ?_
                    obtain ⟨x24, hx24⟩ := get_of_lt (xs := M2.set kq ylq) (k := kq) (by first | omega | (simp; omega))
                    refine Gw.val rfl rfl rfl rfl rfl (fun us => match us with | [] => val_ixa rfl Try.underlying22 Try.ty28 rfl rfl (j := kq) (rfl) (reach_own (k := 0) rfl hxkq) | u1 :: _ => val_ixa rfl Try.underlying22 Try.ty28 rfl rfl (j := kq) (rfl) (reach_own (k := 0) rfl hx24)) ?_
                    refine Gw.val0 rfl rfl rfl (by kernel_rfl) rfl rfl (val_load rfl Try.ty28 rfl rfl (cell_own (i := 0) (k := 0) rfl hxkq rfl)) ?_
                    refine Gw.val0 rfl rfl rfl (by kernel_rfl) rfl rfl (val_ixa rfl Try.underlying22 Try.ty28 rfl rfl (j := kq) (rfl) (reach_own (k := 0) rfl hxkq)) ?_
                    refine Gw.chg0 rfl rfl rfl rfl (Eff.mono (eff_storeElA ylq rfl Try.ty28 rfl rfl rfl FU_one (k := 0) rfl FU_len hxkq (l' := [Hp.own FU 1 v (M2.set kq ylq), R]) rfl) (fun _ _ h => congrArg sep h)) (fun _ => ?_)
                    obtain ⟨x25, hx25⟩ := get_of_lt (xs := M2.set kq ylq) (k := lq) (by first | omega | (simp; omega))
                    refine Gw.val0 rfl rfl rfl (by kernel_rfl) rfl rfl (val_ixa rfl Try.underlying22 Try.ty28 rfl rfl (j := lq) (rfl) (reach_own (k := 0) rfl hx25)) ?_
                    refine Gw.done ?_
                    refine Gx.norm (l' := [Hp.own FU 1 v (M2.set kq ylq), R]) rfl ?_
                    refine Gx.eff0 rfl rfl (eff_storeElA xkq rfl Try.ty28 rfl rfl rfl FU_one (k := 0) rfl FU_len hx25 (l' := [Hp.own FU 1 v ((M2.set kq ylq).set lq xkq), R]) rfl) ?_
                    rintro _ _ rfl
                    refine Gx.done ?_
                    refine Gx.thenN ?_
                    refine Gx.seq ?_
                    refine Gx.region ?_
                    refine Gx.val rfl rfl rfl (val_move rfl rfl) ?_
                    refine Gx.val rfl rfl rfl (val_add rfl rfl rfl (r := ((kq + 1 : Nat) : Int)) (w64 (by omega) (by omega))) ?_
                    refine Gx.val rfl rfl rfl (val_assign rfl rfl) ?_
                    refine Gx.done ?_
                    refine Gx.thenN ?_
                    refine Gx.region ?_
                    refine Gx.val rfl rfl rfl (val_move rfl rfl) ?_
                    refine Gx.val rfl rfl rfl (val_sub rfl rfl rfl (r := ((lq - 1 : Nat) : Int)) (w64 (by omega) (by omega))) ?_
                    refine Gx.val rfl rfl rfl (val_assign rfl rfl) ?_
                    refine Gx.done ?_
                    refine Gx.blkN ?_
                    refine Gx.thenN ?_
                    exact Gx.round (kq + 1, lq - 1, (M2.set kq ylq).set lq xkq) ⟨by first | omega | (dsimp only; omega), by first | omega | (dsimp only; omega), by first | omega | (dsimp only; omega), Sh.swap hsh2 (by omega) (by omega) (by omega) (by omega) hxkq hylq, part_keep hpv2 hxkq hylq (by omega) (by omega), part_lo hlokq hxkq hylq (by first | omega | (exfalso; omega) | (dsimp only; omega)) hlt, part_hi hhilq hxkq hylq (by first | omega | (exfalso; omega) | (dsimp only; omega)) hlt⟩ (by first | omega | (dsimp only; omega)) ((.cons rfl (.cons rfl (.cons rfl (.cons rfl .nil))))) rfl
            · refine Gq.skipg rfl rfl rfl rfl rfl rfl ?_
              refine Gq.skipg rfl rfl rfl rfl rfl rfl ?_
              refine Gq.skipg rfl rfl rfl rfl rfl rfl ?_
              refine Gq.skipg rfl rfl rfl rfl rfl rfl ?_
              refine Gq.skipg rfl rfl rfl rfl rfl rfl ?_
              refine Gq.skipg rfl rfl rfl rfl rfl rfl ?_
              refine Gq.skipg rfl rfl rfl rfl rfl rfl ?_
              refine Gq.skipg rfl rfl rfl rfl rfl rfl ?_
              refine Gq.skipg rfl rfl rfl rfl rfl rfl ?_
              refine Gq.val rfl rfl rfl (val_pickF rfl rfl rfl) ?_
              refine Gq.done ?_
              refine Gx.thenN ?_
              refine Gx.f rfl ?_
              refine Gx.exit ?_
              refine Gx.thenE ?_
              refine Gx.thenE ?_
              refine Gx.blkE ?_
              refine Gx.thenN ?_
              refine Gx.seq ?_
              refine Gx.block ?_
              refine Gx.loop (ι := Nat) (fun ξ => (ξ + 1 ≤ b) ∧ (kq ≤ ξ + 1) ∧ (ξ ≤ l) ∧ (All (fun z => ¬ z < pv) (ξ + 1) b M2)) (fun ξ => [(0, v), (1, .int .i64 ((a : Nat) : Int)), (10, .int .i64 ((kq : Nat) : Int)), (11, .int .i64 ((ξ : Nat) : Int))]) (fun ξ => [Hp.own FU 1 v M2, R]) (fun ξ => ξ) l ⟨by first | omega | (dsimp only; omega), by first | omega | (dsimp only; omega), by first | omega | (dsimp only; omega), hhi⟩ ((.cons rfl (.cons rfl (.cons rfl (.cons rfl .nil))))) rfl ?_
              rintro lq ⟨hjblq, hijlq, hjjlq, hhilq⟩
              refine Gx.know (m' := [(0, v), (1, .int .i64 ((a : Nat) : Int)), (10, .int .i64 ((kq : Nat) : Int)), (11, .int .i64 ((lq : Nat) : Int))]) (.cons rfl (.cons rfl (.cons rfl (.cons rfl .nil)))) (Gx.norm (l' := [Hp.own FU 1 v M2, R]) rfl ?_)
              refine Gx.seq ?_
              refine Gx.seq ?_
              refine Gx.regionQ Try.mixed (by kernel_rfl) ?_
              refine Gq.val rfl rfl rfl (val_move rfl rfl) ?_
              refine Gq.val rfl rfl rfl (val_move rfl rfl) ?_
              refine Gq.val rfl rfl rfl (val_leq rfl rfl rfl) ?_
              refine Gq.val rfl rfl rfl (val_move rfl rfl) ?_
              refine Gq.cases (t := 118) rfl (fun h26 => ?_) (fun h26 => ?_)
              · obtain ⟨ylq, hylq⟩ := get_of_lt (xs := M2) (k := lq) (by omega)
                refine Gq.valg rfl rfl rfl rfl rfl (val_move rfl rfl) ?_
                refine Gq.valg rfl rfl rfl rfl rfl (val_move rfl rfl) ?_
                refine Gq.valg rfl rfl rfl rfl rfl (val_ixa rfl Try.underlying22 Try.ty28 rfl rfl (j := lq) (rfl) (reach_own (k := 0) rfl hylq)) ?_
                refine Gq.valg rfl rfl rfl rfl rfl (val_load rfl Try.ty28 rfl rfl (cell_own (i := 0) (k := 0) rfl hylq rfl)) ?_
                refine Gq.valg rfl rfl rfl rfl rfl (val_move rfl rfl) ?_
                refine Gq.valg rfl rfl rfl rfl rfl (val_move rfl rfl) ?_
                refine Gq.valg rfl rfl rfl rfl rfl (val_ixa rfl Try.underlying22 Try.ty28 rfl rfl (j := a) (rfl) (reach_own (k := 0) rfl hpv2)) ?_
                refine Gq.valg rfl rfl rfl rfl rfl (val_load rfl Try.ty28 rfl rfl (cell_own (i := 0) (k := 0) rfl hpv2 rfl)) ?_
                refine Gq.valg rfl rfl rfl rfl rfl (val_call (vs := [.int .u32 ((ylq : Nat) : Int), .int .u32 ((pv : Nat) : Int)]) rfl Try.fn47 rfl (fun w H => less_any ylq pv)) ?_
                refine Gq.valg rfl rfl rfl rfl rfl (val_notD rfl rfl) ?_
                refine Gq.val rfl rfl rfl (val_pickT rfl rfl rfl) ?_
                refine Gq.done ?_
                refine Gx.thenN ?_
                refine Gx.dec rfl (fun h27 => ?_) (fun h27 => ?_)
                · refine Gx.skip ?_
                  refine Gx.thenN ?_
                  refine Gx.block ?_
                  refine Gx.region ?_
                  refine Gx.val rfl rfl rfl (val_move rfl rfl) ?_
                  refine Gx.val rfl rfl rfl (val_sub rfl rfl rfl (r := ((lq - 1 : Nat) : Int)) (w64 (by omega) (by omega))) ?_
                  refine Gx.val rfl rfl rfl (val_assign rfl rfl) ?_
                  refine Gx.done ?_
                  refine Gx.blkN ?_
                  refine Gx.thenN ?_
                  exact Gx.round (lq - 1) ⟨by first | omega | (dsimp only; omega), by first | omega | (dsimp only; omega), by first | omega | (dsimp only; omega), hhilq.cons hylq (by first | omega | (dsimp only; omega)) (by omega)⟩ (by first | omega | (dsimp only; omega)) ((.cons rfl (.cons rfl (.cons rfl (.cons rfl .nil))))) rfl
                · refine Gx.exit ?_
                  refine Gx.thenE ?_
                  refine Gx.thenE ?_
                  refine Gx.blkE ?_
                  refine Gx.thenN ?_
                  refine Gx.seq ?_
                  refine Gx.seq ?_
                  refine Gx.region ?_
                  refine Gx.val rfl rfl rfl (val_move rfl rfl) ?_
                  refine Gx.val rfl rfl rfl (val_move rfl rfl) ?_
                  refine Gx.val rfl rfl rfl (val_gtr rfl rfl rfl) ?_
                  refine Gx.done ?_
                  refine Gx.thenN ?_
                  refine Gx.dec rfl (fun h28 => ?_) (fun h28 => ?_)
                  · refine Gx.exit ?_
                    refine Gx.thenE ?_
                    refine Gx.blkO rfl ?_
                    refine Gx.thenE ?_
                    refine Gx.blkE ?_
                    refine Gx.thenN ?_
                    refine Gx.seq ?_
                    obtain ⟨e1, e2, e3⟩ := part_end (fun k z h0 h1 => hlokq k z h0 (by omega)) hhilq hylq hpv2 (by omega)
                    have hshe := Sh.swap hsh2 (by omega) (by omega) (by omega) (by omega) hylq hpv2
                    refine Gx.regionO (fun j => j == 13) 15 [0, 1, 2, 3, 4, 5, 6, 7, 8, 9, 10, 11, 12, 13, 14] (fun us => match us with | [] => [Hp.own FU 1 v M2, R] | u1 :: _ => [Hp.own FU 1 v (M2.set lq pv), R]) Try.mixed (by kernel_rfl) rfl ?_
                    refine Gw.val rfl rfl rfl rfl rfl (fun us => val_move rfl rfl) ?_
                    refine Gw.val rfl rfl rfl rfl rfl (fun us => val_move rfl rfl) ?_
                    refine Gw.val rfl rfl rfl rfl rfl (fun us => val_move rfl rfl) ?_
                    refine Gw.val rfl rfl rfl rfl rfl (fun us => val_move rfl rfl) ?_
                    refine Gw.val rfl rfl rfl rfl rfl (fun us => val_move rfl rfl) ?_
                    refine Gw.val rfl rfl rfl rfl rfl (fun us => val_move rfl rfl) ?_
                    refine Gw.val0 rfl rfl rfl (by kernel_rfl) rfl rfl (val_ixa rfl Try.underlying22 Try.ty28 rfl rfl (j := a) (rfl) (reach_own (k := 0) rfl hpv2)) ?_
                    refine Gw.val0 rfl rfl rfl (by kernel_rfl) rfl rfl (val_load rfl Try.ty28 rfl rfl (cell_own (i := 0) (k := 0) rfl hpv2 rfl)) ?_
                    refine Gw.val rfl rfl rfl rfl rfl (fun us => val_move rfl rfl) ?_
                    refine Gw.val rfl rfl rfl rfl rfl (fun us => val_move rfl rfl) ?_
                    obtain ⟨x29, hx29⟩ := get_of_lt (xs := M2.set lq pv) (k := lq) (by first | omega | (simp; omega))
                    refine Gw.val rfl rfl rfl rfl rfl (fun us => match us with | [] => val_ixa rfl Try.underlying22 Try.ty28 rfl rfl (j := lq) (rfl) (reach_own (k := 0) rfl hylq) | u1 :: _ => val_ixa rfl Try.underlying22 Try.ty28 rfl rfl (j := lq) (rfl) (reach_own (k := 0) rfl hx29)) ?_
                    refine Gw.val0 rfl rfl rfl (by kernel_rfl) rfl rfl (val_load rfl Try.ty28 rfl rfl (cell_own (i := 0) (k := 0) rfl hylq rfl)) ?_
                    refine Gw.val0 rfl rfl rfl (by kernel_rfl) rfl rfl (val_ixa rfl Try.underlying22 Try.ty28 rfl rfl (j := lq) (rfl) (reach_own (k := 0) rfl hylq)) ?_
                    refine Gw.chg0 rfl rfl rfl rfl (Eff.mono (eff_storeElA pv rfl Try.ty28 rfl rfl rfl FU_one (k := 0) rfl FU_len hylq (l' := [Hp.own FU 1 v (M2.set lq pv), R]) rfl) (fun _ _ h => congrArg sep h)) (fun _ => ?_)
                    obtain ⟨x30, hx30⟩ := get_of_lt (xs := M2.set lq pv) (k := a) (by first | omega | (simp; omega))
                    refine Gw.val0 rfl rfl rfl (by kernel_rfl) rfl rfl (val_ixa rfl Try.underlying22 Try.ty28 rfl rfl (j := a) (rfl) (reach_own (k := 0) rfl hx30)) ?_
                    refine Gw.done ?_
                    refine Gx.norm (l' := [Hp.own FU 1 v (M2.set lq pv), R]) rfl ?_
                    refine Gx.eff0 rfl rfl (eff_storeElA ylq rfl Try.ty28 rfl rfl rfl FU_one (k := 0) rfl FU_len hx30 (l' := [Hp.own FU 1 v ((M2.set lq pv).set a ylq), R]) rfl) ?_
                    rintro _ _ rfl
                    refine Gx.done ?_
                    refine Gx.thenN ?_
                    refine Gx.seq ?_
                    refine Gx.region ?_
                    refine Gx.val rfl rfl rfl (val_move rfl rfl) ?_
                    refine Gx.val rfl rfl rfl (val_assign rfl rfl) ?_
                    refine Gx.val rfl rfl rfl (val_assign rfl rfl) ?_
                    refine Gx.done ?_
                    refine Gx.thenN ?_
                    refine Gx.ret ?_
                    refine Gx.ret2 Try.results49 rfl rfl ?_
                    exact ⟨_, _, _, hshe, by omega, by omega, e1, e2, fun k z h0 h1 hz => Nat.not_lt.1 (e3 k z h0 h1 hz), rfl, sep1 _ _⟩
                  · refine Gx.skip ?_
                    refine Gx.thenN ?_
                    refine Gx.seq ?_
                    obtain ⟨xkq, hxkq⟩ := get_of_lt (xs := M2) (k := kq) (by omega)
                    have hlt : kq < lq := by first | (exfalso; omega) | exact part_lt (P := (fun z => z < pv)) (Q := (fun z => ¬ z < pv)) hxkq hylq (by first | omega | (dsimp only; omega)) (by first | omega | (dsimp only; omega)) (fun z h => by first | omega | (dsimp only at *; omega)) (by omega)
                    refine Gx.regionO (fun j => j == 13) 15 [0, 1, 2, 3, 4, 5, 6, 7, 8, 9, 10, 11, 12, 13, 14] (fun us => match us with | [] => [Hp.own FU 1 v M2, R] | u1 :: _ => [Hp.own FU 1 v (M2.set kq ylq), R]) Try.mixed (by kernel_rfl) rfl ?_
                    refine Gw.val rfl rfl rfl rfl rfl (fun us => val_move rfl rfl) ?_
                    refine Gw.val rfl rfl rfl rfl rfl (fun us => val_move rfl rfl) ?_
                    refine Gw.val rfl rfl rfl rfl rfl (fun us => val_move rfl rfl) ?_
                    refine Gw.val rfl rfl rfl rfl rfl (fun us => val_move rfl rfl) ?_
                    refine Gw.val rfl rfl rfl rfl rfl (fun us => val_move rfl rfl) ?_
                    refine Gw.val rfl rfl rfl rfl rfl (fun us => val_move rfl rfl) ?_
                    refine Gw.val0 rfl rfl rfl (by kernel_rfl) rfl rfl (val_ixa rfl Try.underlying22 Try.ty28 rfl rfl (j := lq) (rfl) (reach_own (k := 0) rfl hylq)) ?_
                    refine Gw.val0 rfl rfl rfl (by kernel_rfl) rfl rfl (val_load rfl Try.ty28 rfl rfl (cell_own (i := 0) (k := 0) rfl hylq rfl)) ?_
                    refine Gw.val rfl rfl rfl rfl rfl (fun us => val_move rfl rfl) ?_
                    refine Gw.val rfl rfl rfl rfl rfl (fun us => val_move rfl rfl) ?_
                    obtain ⟨x31, hx31⟩ := get_of_lt (xs := M2.set kq ylq) (k := kq) (by first | omega | (simp; omega))
                    refine Gw.val rfl rfl rfl rfl rfl (fun us => match us with | [] => val_ixa rfl Try.underlying22 Try.ty28 rfl rfl (j := kq) (rfl) (reach_own (k := 0) rfl hxkq) | u1 :: _ => val_ixa rfl Try.underlying22 Try.ty28 rfl rfl (j := kq) (rfl) (reach_own (k := 0) rfl hx31)) ?_
                    refine Gw.val0 rfl rfl rfl (by kernel_rfl) rfl rfl (val_load rfl Try.ty28 rfl rfl (cell_own (i := 0) (k := 0) rfl hxkq rfl)) ?_
                    refine Gw.val0 rfl rfl rfl (by kernel_rfl) rfl rfl (val_ixa rfl Try.underlying22 Try.ty28 rfl rfl (j := kq) (rfl) (reach_own (k := 0) rfl hxkq)) ?_
                    refine Gw.chg0 rfl rfl rfl rfl (Eff.mono (eff_storeElA ylq rfl Try.ty28 rfl rfl rfl FU_one (k := 0) rfl FU_len hxkq (l' := [Hp.own FU 1 v (M2.set kq ylq), R]) rfl) (fun _ _ h => congrArg sep h)) (fun _ => ?_)
                    obtain ⟨x32, hx32⟩ := get_of_lt (xs := M2.set kq ylq) (k := lq) (by first | omega | (simp; omega))
                    refine Gw.val0 rfl rfl rfl (by kernel_rfl) rfl rfl (val_ixa rfl Try.underlying22 Try.ty28 rfl rfl (j := lq) (rfl) (reach_own (k := 0) rfl hx32)) ?_
                    refine Gw.done ?_
                    refine Gx.norm (l' := [Hp.own FU 1 v (M2.set kq ylq), R]) rfl ?_
                    refine Gx.eff0 rfl rfl (eff_storeElA xkq rfl Try.ty28 rfl rfl rfl FU_one (k := 0) rfl FU_len hx32 (l' := [Hp.own FU 1 v ((M2.set kq ylq).set lq xkq), R]) rfl) ?_
                    rintro _ _ rfl
                    refine Gx.done ?_
                    refine Gx.thenN ?_
                    refine Gx.seq ?_
                    refine Gx.region ?_
                    refine Gx.val rfl rfl rfl (val_move rfl rfl) ?_
                    refine Gx.val rfl rfl rfl (val_add rfl rfl rfl (r := ((kq + 1 : Nat) : Int)) (w64 (by omega) (by omega))) ?_
                    refine Gx.val rfl rfl rfl (val_assign rfl rfl) ?_
                    refine Gx.done ?_
                    refine Gx.thenN ?_
                    refine Gx.region ?_
                    refine Gx.val rfl rfl rfl (val_move rfl rfl) ?_
                    refine Gx.val rfl rfl rfl (val_sub rfl rfl rfl (r := ((lq - 1 : Nat) : Int)) (w64 (by omega) (by omega))) ?_
                    refine Gx.val rfl rfl rfl (val_assign rfl rfl) ?_
                    refine Gx.done ?_
                    refine Gx.blkN ?_
                    refine Gx.thenN ?_
                    exact Gx.round (kq + 1, lq - 1, (M2.set kq ylq).set lq xkq) ⟨by first | omega | (dsimp only; omega), by first | omega | (dsimp only; omega), by first | omega | (dsimp only; omega), Sh.swap hsh2 (by omega) (by omega) (by omega) (by omega) hxkq hylq, part_keep hpv2 hxkq hylq (by omega) (by omega), part_lo hlokq hxkq hylq (by first | omega | (exfalso; omega) | (dsimp only; omega)) hlt, part_hi hhilq hxkq hylq (by first | omega | (exfalso; omega) | (dsimp only; omega)) hlt⟩ (by first | omega | (dsimp only; omega)) ((.cons rfl (.cons rfl (.cons rfl (.cons rfl .nil))))) rfl
              · refine Gq.skipg rfl rfl rfl rfl rfl rfl ?_
                refine Gq.skipg rfl rfl rfl rfl rfl rfl ?_
                refine Gq.skipg rfl rfl rfl rfl rfl rfl ?_
                refine Gq.skipg rfl rfl rfl rfl rfl rfl ?_
                refine Gq.skipg rfl rfl rfl rfl rfl rfl ?_
                refine Gq.skipg rfl rfl rfl rfl rfl rfl ?_
                refine Gq.skipg rfl rfl rfl rfl rfl rfl ?_
                refine Gq.skipg rfl rfl rfl rfl rfl rfl ?_
                refine Gq.skipg rfl rfl rfl rfl rfl rfl ?_
                refine Gq.skipg rfl rfl rfl rfl rfl rfl ?_
                refine Gq.val rfl rfl rfl (val_pickF rfl rfl rfl) ?_
                refine Gq.done ?_
                refine Gx.thenN ?_
                refine Gx.f rfl ?_
                refine Gx.exit ?_
                refine Gx.thenE ?_
                refine Gx.thenE ?_
                refine Gx.blkE ?_
                refine Gx.thenN ?_
                refine Gx.seq ?_
                refine Gx.seq ?_
                refine Gx.region ?_
                refine Gx.val rfl rfl rfl (val_move rfl rfl) ?_
                refine Gx.val rfl rfl rfl (val_move rfl rfl) ?_
                refine Gx.val rfl rfl rfl (val_gtr rfl rfl rfl) ?_
                refine Gx.done ?_
                refine Gx.thenN ?_
                refine Gx.dec rfl (fun h33 => ?_) (fun h33 => ?_)
                · refine Gx.exit ?_
                  refine Gx.thenE ?_
                  refine Gx.blkO rfl ?_
                  refine Gx.thenE ?_
                  refine Gx.blkE ?_
                  refine Gx.thenN ?_
                  refine Gx.seq ?_
                  obtain ⟨ylq, hylq⟩ := get_of_lt (xs := M2) (k := lq) (by omega)
                  obtain ⟨e1, e2, e3⟩ := part_end (fun k z h0 h1 => hlokq k z h0 (by omega)) hhilq hylq hpv2 (by omega)
                  have hshe := Sh.swap hsh2 (by omega) (by omega) (by omega) (by omega) hylq hpv2
                  refine Gx.regionO (fun j => j == 13) 15 [0, 1, 2, 3, 4, 5, 6, 7, 8, 9, 10, 11, 12, 13, 14] (fun us => match us with | [] => [Hp.own FU 1 v M2, R] | u1 :: _ => [Hp.own FU 1 v (M2.set lq pv), R]) Try.mixed (by kernel_rfl) rfl ?_
                  refine Gw.val rfl rfl rfl rfl rfl (fun us => val_move rfl rfl) ?_
                  refine Gw.val rfl rfl rfl rfl rfl (fun us => val_move rfl rfl) ?_
                  refine Gw.val rfl rfl rfl rfl rfl (fun us => val_move rfl rfl) ?_
                  refine Gw.val rfl rfl rfl rfl rfl (fun us => val_move rfl rfl) ?_
                  refine Gw.val rfl rfl rfl rfl rfl (fun us => val_move rfl rfl) ?_
                  refine Gw.val rfl rfl rfl rfl rfl (fun us => val_move rfl rfl) ?_
                  refine Gw.val0 rfl rfl rfl (by kernel_rfl) rfl rfl (val_ixa rfl Try.underlying22 Try.ty28 rfl rfl (j := a) (rfl) (reach_own (k := 0) rfl hpv2)) ?_
                  refine Gw.val0 rfl rfl rfl (by kernel_rfl) rfl rfl (val_load rfl Try.ty28 rfl rfl (cell_own (i := 0) (k := 0) rfl hpv2 rfl)) ?_
                  refine Gw.val rfl rfl rfl rfl rfl (fun us => val_move rfl rfl) ?_
                  refine Gw.val rfl rfl rfl rfl rfl (fun us => val_move rfl rfl) ?_
                  obtain ⟨x34, hx34⟩ := get_of_lt (xs := M2.set lq pv) (k := lq) (by first | omega | (simp; omega))
                  refine Gw.val rfl rfl rfl rfl rfl (fun us => match us with | [] => val_ixa rfl Try.underlying22 Try.ty28 rfl rfl (j := lq) (rfl) (reach_own (k := 0) rfl hylq) | u1 :: _ => val_ixa rfl Try.underlying22 Try.ty28 rfl rfl (j := lq) (rfl) (reach_own (k := 0) rfl hx34)) ?_
                  refine Gw.val0 rfl rfl rfl (by kernel_rfl) rfl rfl (val_load rfl Try.ty28 rfl rfl (cell_own (i := 0) (k := 0) rfl hylq rfl)) ?_
                  refine Gw.val0 rfl rfl rfl (by kernel_rfl) rfl rfl (val_ixa rfl Try.underlying22 Try.ty28 rfl rfl (j := lq) (rfl) (reach_own (k := 0) rfl hylq)) ?_
                  refine Gw.chg0 rfl rfl rfl rfl (Eff.mono (eff_storeElA pv rfl Try.ty28 rfl rfl rfl FU_one (k := 0) rfl FU_len hylq (l' := [Hp.own FU 1 v (M2.set lq pv), R]) rfl) (fun _ _ h => congrArg sep h)) (fun _ => ?_)
                  obtain ⟨x35, hx35⟩ := get_of_lt (xs := M2.set lq pv) (k := a) (by first | omega | (simp; omega))
                  refine Gw.val0 rfl rfl rfl (by kernel_rfl) rfl rfl (val_ixa rfl Try.underlying22 Try.ty28 rfl rfl (j := a) (rfl) (reach_own (k := 0) rfl hx35)) ?_
                  refine Gw.done ?_
                  refine Gx.norm (l' := [Hp.own FU 1 v (M2.set lq pv), R]) rfl ?_
                  refine Gx.eff0 rfl rfl (eff_storeElA ylq rfl Try.ty28 rfl rfl rfl FU_one (k := 0) rfl FU_len hx35 (l' := [Hp.own FU 1 v ((M2.set lq pv).set a ylq), R]) rfl) ?_
                  rintro _ _ rfl
                  refine Gx.done ?_
                  refine Gx.thenN ?_
                  refine Gx.seq ?_
                  refine Gx.region ?_
                  refine Gx.val rfl rfl rfl (val_move rfl rfl) ?_
                  refine Gx.val rfl rfl rfl (val_assign rfl rfl) ?_
                  refine Gx.val rfl rfl rfl (val_assign rfl rfl) ?_
                  refine Gx.done ?_
                  refine Gx.thenN ?_
                  refine Gx.ret ?_
                  refine Gx.ret2 Try.results49 rfl rfl ?_
                  exact ⟨_, _, _, hshe, by omega, by omega, e1, e2, fun k z h0 h1 hz => Nat.not_lt.1 (e3 k z h0 h1 hz), rfl, sep1 _ _⟩
                · refine Gx.skip ?_
                  refine Gx.thenN ?_
                  refine Gx.seq ?_
                  obtain ⟨xkq, hxkq⟩ := get_of_lt (xs := M2) (k := kq) (by omega)
                  obtain ⟨ylq, hylq⟩ := get_of_lt (xs := M2) (k := lq) (by omega)
                  have hlt : kq < lq := by first | (exfalso; omega) | exact part_lt (P := (fun z => z < pv)) (Q := (fun z => ¬ z < pv)) hxkq hylq (by first | omega | (dsimp only; omega)) (by first | omega | (dsimp only; omega)) (fun z h => by first | omega | (dsimp only at *; omega)) (by omega)
                  refine Gx.regionO (fun j => j == 13) 15 [0, 1, 2, 3, 4, 5, 6, 7, 8, 9, 10, 11, 12, 13, 14] (fun us => match us with | [] => [Hp.own FU 1 v M2, R] | u1 :: _ => [Hp.own FU 1 v (M2.set kq ylq), R]) Try.mixed (by kernel_rfl) rfl ?_
                  refine Gw.val rfl rfl rfl rfl rfl (fun us => val_move rfl rfl) ?_
                  refine Gw.val rfl rfl rfl rfl rfl (fun us => val_move rfl rfl) ?_
                  refine Gw.val rfl rfl rfl rfl rfl (fun us => val_move rfl rfl) ?_
                  refine Gw.val rfl rfl rfl rfl rfl (fun us => val_move rfl rfl) ?_
                  refine Gw.val rfl rfl rfl rfl rfl (fun us => val_move rfl rfl) ?_
                  refine Gw.val rfl rfl rfl rfl rfl (fun us => val_move rfl rfl) ?_
                  refine Gw.val0 rfl rfl rfl (by kernel_rfl) rfl rfl (val_ixa rfl Try.underlying22 Try.ty28 rfl rfl (j := lq) (rfl) (reach_own (k := 0) rfl hylq)) ?_
                  refine Gw.val0 rfl rfl rfl (by kernel_rfl) rfl rfl (val_load rfl Try.ty28 rfl rfl (cell_own (i := 0) (k := 0) rfl hylq rfl)) ?_
                  refine Gw.val rfl rfl rfl rfl rfl (fun us => val_move rfl rfl) ?_
                  refine Gw.val rfl rfl rfl rfl rfl (fun us => val_move rfl rfl) ?_
                  obtain ⟨x36, hx36⟩ := get_of_lt (xs := M2.set kq ylq) (k := kq) (by first | omega | (simp; omega))
                  refine Gw.val rfl rfl rfl rfl rfl (fun us => match us with | [] => val_ixa rfl Try.underlying22 Try.ty28 rfl rfl (j := kq) (rfl) (reach_own (k := 0) rfl hxkq) | u1 :: _ => val_ixa rfl Try.underlying22 Try.ty28 rfl rfl (j := kq) (rfl) (reach_own (k := 0) rfl hx36)) ?_
                  refine Gw.val0 rfl rfl rfl (by kernel_rfl) rfl rfl (val_load rfl Try.ty28 rfl rfl (cell_own (i := 0) (k := 0) rfl hxkq rfl)) ?_
                  refine Gw.val0 rfl rfl rfl (by kernel_rfl) rfl rfl (val_ixa rfl Try.underlying22 Try.ty28 rfl rfl (j := kq) (rfl) (reach_own (k := 0) rfl hxkq)) ?_
                  refine Gw.chg0 rfl rfl rfl rfl (Eff.mono (eff_storeElA ylq rfl Try.ty28 rfl rfl rfl FU_one (k := 0) rfl FU_len hxkq (l' := [Hp.own FU 1 v (M2.set kq ylq), R]) rfl) (fun _ _ h => congrArg sep h)) (fun _ => ?_)
                  obtain ⟨x37, hx37⟩ := get_of_lt (xs := M2.set kq ylq) (k := lq) (by first | omega | (simp; omega))
                  refine Gw.val0 rfl rfl rfl (by kernel_rfl) rfl rfl (val_ixa rfl Try.underlying22 Try.ty28 rfl rfl (j := lq) (rfl) (reach_own (k := 0) rfl hx37)) ?_
                  refine Gw.done ?_
                  refine Gx.norm (l' := [Hp.own FU 1 v (M2.set kq ylq), R]) rfl ?_
                  refine Gx.eff0 rfl rfl (eff_storeElA xkq rfl Try.ty28 rfl rfl rfl FU_one (k := 0) rfl FU_len hx37 (l' := [Hp.own FU 1 v ((M2.set kq ylq).set lq xkq), R]) rfl) ?_
                  rintro _ _ rfl
                  refine Gx.done ?_
                  refine Gx.thenN ?_
                  refine Gx.seq ?_
                  refine Gx.region ?_
                  refine Gx.val rfl rfl rfl (val_move rfl rfl) ?_
                  refine Gx.val rfl rfl rfl (val_add rfl rfl rfl (r := ((kq + 1 : Nat) : Int)) (w64 (by omega) (by omega))) ?_
                  refine Gx.val rfl rfl rfl (val_assign rfl rfl) ?_
                  refine Gx.done ?_
                  refine Gx.thenN ?_
                  refine Gx.region ?_
                  refine Gx.val rfl rfl rfl (val_move rfl rfl) ?_
                  refine Gx.val rfl rfl rfl (val_sub rfl rfl rfl (r := ((lq - 1 : Nat) : Int)) (w64 (by omega) (by omega))) ?_
                  refine Gx.val rfl rfl rfl (val_assign rfl rfl) ?_
                  refine Gx.done ?_
                  refine Gx.blkN ?_
                  refine Gx.thenN ?_
                  exact Gx.round (kq + 1, lq - 1, (M2.set kq ylq).set lq xkq) ⟨by first | omega | (dsimp only; omega), by first | omega | (dsimp only; omega), by first | omega | (dsimp only; omega), Sh.swap hsh2 (by omega) (by omega) (by omega) (by omega) hxkq hylq, part_keep hpv2 hxkq hylq (by omega) (by omega), part_lo hlokq hxkq hylq (by first | omega | (exfalso; omega) | (dsimp only; omega)) hlt, part_hi hhilq hxkq hylq (by first | omega | (exfalso; omega) | (dsimp only; omega)) hlt⟩ (by first | omega | (dsimp only; omega)) ((.cons rfl (.cons rfl (.cons rfl (.cons rfl .nil))))) rfl
      · refine Gq.skipg rfl rfl rfl rfl rfl rfl ?_
        refine Gq.skipg rfl rfl rfl rfl rfl rfl ?_
        refine Gq.skipg rfl rfl rfl rfl rfl rfl ?_
        refine Gq.skipg rfl rfl rfl rfl rfl rfl ?_
        refine Gq.skipg rfl rfl rfl rfl rfl rfl ?_
        refine Gq.skipg rfl rfl rfl rfl rfl rfl ?_
        refine Gq.skipg rfl rfl rfl rfl rfl rfl ?_
        refine Gq.skipg rfl rfl rfl rfl rfl rfl ?_
        refine Gq.skipg rfl rfl rfl rfl rfl rfl ?_
        refine Gq.skipg rfl rfl rfl rfl rfl rfl ?_
        refine Gq.val rfl rfl rfl (val_pickF rfl rfl rfl) ?_
        refine Gq.done ?_
        refine Gx.thenN ?_
        refine Gx.f rfl ?_
        refine Gx.exit ?_
        refine Gx.thenE ?_
        refine Gx.thenE ?_
        refine Gx.blkE ?_
        refine Gx.thenN ?_
        refine Gx.seq ?_
        refine Gx.seq ?_
        refine Gx.region ?_
        refine Gx.val rfl rfl rfl (val_move rfl rfl) ?_
        refine Gx.val rfl rfl rfl (val_move rfl rfl) ?_
        refine Gx.val rfl rfl rfl (val_gtr rfl rfl rfl) ?_
        refine Gx.done ?_
        refine Gx.thenN ?_
        refine Gx.dec rfl (fun h38 => ?_) (fun h38 => ?_)
        · refine Gx.seq ?_
          obtain ⟨yjq, hyjq⟩ := get_of_lt (xs := M) (k := jq) (by omega)
          obtain ⟨e1, e2, e3⟩ := part_end (fun k z h0 h1 => hloiq k z h0 (by omega)) hhijq hyjq hpv (by omega)
          have hshe := Sh.swap hsh (by omega) (by omega) (by omega) (by omega) hyjq hpv
          refine Gx.regionO (fun j => j == 13) 15 [0, 1, 2, 3, 4, 5, 6, 7, 8, 9, 10, 11, 12, 13, 14] (fun us => match us with | [] => [Hp.own FU 1 v M, R] | u1 :: _ => [Hp.own FU 1 v (M.set jq pv), R]) Try.mixed (by kernel_rfl) rfl ?_
          refine Gw.val rfl rfl rfl rfl rfl (fun us => val_move rfl rfl) ?_
          refine Gw.val rfl rfl rfl rfl rfl (fun us => val_move rfl rfl) ?_
          refine Gw.val rfl rfl rfl rfl rfl (fun us => val_move rfl rfl) ?_
          refine Gw.val rfl rfl rfl rfl rfl (fun us => val_move rfl rfl) ?_
          refine Gw.val rfl rfl rfl rfl rfl (fun us => val_move rfl rfl) ?_
          refine Gw.val rfl rfl rfl rfl rfl (fun us => val_move rfl rfl) ?_
          refine Gw.val0 rfl rfl rfl (by kernel_rfl) rfl rfl (val_ixa rfl Try.underlying22 Try.ty28 rfl rfl (j := a) (rfl) (reach_own (k := 0) rfl hpv)) ?_
          refine Gw.val0 rfl rfl rfl (by kernel_rfl) rfl rfl (val_load rfl Try.ty28 rfl rfl (cell_own (i := 0) (k := 0) rfl hpv rfl)) ?_
          refine Gw.val rfl rfl rfl rfl rfl (fun us => val_move rfl rfl) ?_
          refine Gw.val rfl rfl rfl rfl rfl (fun us => val_move rfl rfl) ?_
          obtain ⟨x39, hx39⟩ := get_of_lt (xs := M.set jq pv) (k := jq) (by first | omega | (simp; omega))
          refine Gw.val rfl rfl rfl rfl rfl (fun us => match us with | [] => val_ixa rfl Try.underlying22 Try.ty28 rfl rfl (j := jq) (rfl) (reach_own (k := 0) rfl hyjq) | u1 :: _ => val_ixa rfl Try.underlying22 Try.ty28 rfl rfl (j := jq) (rfl) (reach_own (k := 0) rfl hx39)) ?_
          refine Gw.val0 rfl rfl rfl (by kernel_rfl) rfl rfl (val_load rfl Try.ty28 rfl rfl (cell_own (i := 0) (k := 0) rfl hyjq rfl)) ?_
          refine Gw.val0 rfl rfl rfl (by kernel_rfl) rfl rfl (val_ixa rfl Try.underlying22 Try.ty28 rfl rfl (j := jq) (rfl) (reach_own (k := 0) rfl hyjq)) ?_
          refine Gw.chg0 rfl rfl rfl rfl (Eff.mono (eff_storeElA pv rfl Try.ty28 rfl rfl rfl FU_one (k := 0) rfl FU_len hyjq (l' := [Hp.own FU 1 v (M.set jq pv), R]) rfl) (fun _ _ h => congrArg sep h)) (fun _ => ?_)
          obtain ⟨x40, hx40⟩ := get_of_lt (xs := M.set jq pv) (k := a) (by first | omega | (simp; omega))
          refine Gw.val0 rfl rfl rfl (by kernel_rfl) rfl rfl (val_ixa rfl Try.underlying22 Try.ty28 rfl rfl (j := a) (rfl) (reach_own (k := 0) rfl hx40)) ?_
          refine Gw.done ?_
          refine Gx.norm (l' := [Hp.own FU 1 v (M.set jq pv), R]) rfl ?_
          refine Gx.eff0 rfl rfl (eff_storeElA yjq rfl Try.ty28 rfl rfl rfl FU_one (k := 0) rfl FU_len hx40 (l' := [Hp.own FU 1 v ((M.set jq pv).set a yjq), R]) rfl) ?_
          rintro _ _ rfl
          refine Gx.done ?_
          refine Gx.thenN ?_
          refine Gx.seq ?_
          refine Gx.region ?_
          refine Gx.val rfl rfl rfl (val_move rfl rfl) ?_
          refine Gx.val rfl rfl rfl (val_assign rfl rfl) ?_
          refine Gx.val rfl rfl rfl (val_assign rfl rfl) ?_
          refine Gx.done ?_
          refine Gx.thenN ?_
          refine Gx.ret ?_
          refine Gx.thenR ?_
          refine Gx.ret2 Try.results49 rfl rfl ?_
          exact ⟨_, _, _, hshe, by omega, by omega, e1, e2, fun k z h0 h1 hz => Nat.not_lt.1 (e3 k z h0 h1 hz), rfl, sep1 _ _⟩
        · refine Gx.skip ?_
          refine Gx.thenN ?_
          refine Gx.seq ?_
          obtain ⟨yjq, hyjq⟩ := get_of_lt (xs := M) (k := jq) (by omega)
          have hlt : iq < jq := by first | (exfalso; omega) | exact part_lt (P := (fun z => z < pv)) (Q := (fun z => ¬ z < pv)) hxiq hyjq (by first | omega | (dsimp only; omega)) (by first | omega | (dsimp only; omega)) (fun z h => by first | omega | (dsimp only at *; omega)) (by omega)
          refine Gx.regionO (fun j => j == 13) 15 [0, 1, 2, 3, 4, 5, 6, 7, 8, 9, 10, 11, 12, 13, 14] (fun us => match us with | [] => [Hp.own FU 1 v M, R] | u1 :: _ => [Hp.own FU 1 v (M.set iq yjq), R]) Try.mixed (by kernel_rfl) rfl ?_
          refine Gw.val rfl rfl rfl rfl rfl (fun us => val_move rfl rfl) ?_
          refine Gw.val rfl rfl rfl rfl rfl (fun us => val_move rfl rfl) ?_
          refine Gw.val rfl rfl rfl rfl rfl (fun us => val_move rfl rfl) ?_
          refine Gw.val rfl rfl rfl rfl rfl (fun us => val_move rfl rfl) ?_
          refine Gw.val rfl rfl rfl rfl rfl (fun us => val_move rfl rfl) ?_
          refine Gw.val rfl rfl rfl rfl rfl (fun us => val_move rfl rfl) ?_
          refine Gw.val0 rfl rfl rfl (by kernel_rfl) rfl rfl (val_ixa rfl Try.underlying22 Try.ty28 rfl rfl (j := jq) (rfl) (reach_own (k := 0) rfl hyjq)) ?_
          refine Gw.val0 rfl rfl rfl (by kernel_rfl) rfl rfl (val_load rfl Try.ty28 rfl rfl (cell_own (i := 0) (k := 0) rfl hyjq rfl)) ?_
          refine Gw.val rfl rfl rfl rfl rfl (fun us => val_move rfl rfl) ?_
          refine Gw.val rfl rfl rfl rfl rfl (fun us => val_move rfl rfl) ?_
          obtain ⟨x41, hx41⟩ := get_of_lt (xs := M.set iq yjq) (k := iq) (by first | omega | (simp; omega))
          refine Gw.val rfl rfl rfl rfl rfl (fun us => match us with | [] => val_ixa rfl Try.underlying22 Try.ty28 rfl rfl (j := iq) (rfl) (reach_own (k := 0) rfl hxiq) | u1 :: _ => val_ixa rfl Try.underlying22 Try.ty28 rfl rfl (j := iq) (rfl) (reach_own (k := 0) rfl hx41)) ?_
          refine Gw.val0 rfl rfl rfl (by kernel_rfl) rfl rfl (val_load rfl Try.ty28 rfl rfl (cell_own (i := 0) (k := 0) rfl hxiq rfl)) ?_
          refine Gw.val0 rfl rfl rfl (by kernel_rfl) rfl rfl (val_ixa rfl Try.underlying22 Try.ty28 rfl rfl (j := iq) (rfl) (reach_own (k := 0) rfl hxiq)) ?_
          refine Gw.chg0 rfl rfl rfl rfl (Eff.mono (eff_storeElA yjq rfl Try.ty28 rfl rfl rfl FU_one (k := 0) rfl FU_len hxiq (l' := [Hp.own FU 1 v (M.set iq yjq), R]) rfl) (fun _ _ h => congrArg sep h)) (fun _ => ?_)
          obtain ⟨x42, hx42⟩ := get_of_lt (xs := M.set iq yjq) (k := jq) (by first | omega | (simp; omega))
          refine Gw.val0 rfl rfl rfl (by kernel_rfl) rfl rfl (val_ixa rfl Try.underlying22 Try.ty28 rfl rfl (j := jq) (rfl) (reach_own (k := 0) rfl hx42)) ?_
          refine Gw.done ?_
          refine Gx.norm (l' := [Hp.own FU 1 v (M.set iq yjq), R]) rfl ?_
          refine Gx.eff0 rfl rfl (eff_storeElA xiq rfl Try.ty28 rfl rfl rfl FU_one (k := 0) rfl FU_len hx42 (l' := [Hp.own FU 1 v ((M.set iq yjq).set jq xiq), R]) rfl) ?_
          rintro _ _ rfl
          refine Gx.done ?_
          refine Gx.thenN ?_
          refine Gx.seq ?_
          refine Gx.region ?_
          refine Gx.val rfl rfl rfl (val_move rfl rfl) ?_
          refine Gx.val rfl rfl rfl (val_add rfl rfl rfl (r := ((iq + 1 : Nat) : Int)) (w64 (by omega) (by omega))) ?_
          refine Gx.val rfl rfl rfl (val_assign rfl rfl) ?_
          refine Gx.done ?_
          refine Gx.thenN ?_
          refine Gx.seq ?_
          refine Gx.region ?_
          refine Gx.val rfl rfl rfl (val_move rfl rfl) ?_
          refine Gx.val rfl rfl rfl (val_sub rfl rfl rfl (r := ((jq - 1 : Nat) : Int)) (w64 (by omega) (by omega))) ?_
          refine Gx.val rfl rfl rfl (val_assign rfl rfl) ?_
          refine Gx.done ?_
          refine Gx.thenN ?_
          refine Gx.seq ?_
          refine Gx.block ?_
          refine Gx.loop (ι := Nat × Nat × (List Nat)) (fun ξ => (a + 1 ≤ ξ.1) ∧ (ξ.1 ≤ ξ.2.1 + 1) ∧ (ξ.2.1 + 1 ≤ b) ∧ (Sh a b xs ξ.2.2) ∧ (ξ.2.2[a]? = some pv) ∧ (All (fun z => z < pv) (a + 1) ξ.1 ξ.2.2) ∧ (All (fun z => ¬ z < pv) (ξ.2.1 + 1) b ξ.2.2)) (fun ξ => [(0, v), (1, .int .i64 ((a : Nat) : Int)), (10, .int .i64 ((ξ.1 : Nat) : Int)), (11, .int .i64 ((ξ.2.1 : Nat) : Int))]) (fun ξ => [Hp.own FU 1 v ξ.2.2, R]) (fun ξ => ξ.2.1 + 1 - ξ.1) (iq + 1, jq - 1, (M.set iq yjq).set jq xiq) ⟨by first | omega | (dsimp only; omega), by first | omega | (dsimp only; omega), by first | omega | (dsimp only; omega), Sh.swap hsh (by omega) (by omega) (by omega) (by omega) hxiq hyjq, part_keep hpv hxiq hyjq (by omega) (by omega), part_lo hloiq hxiq hyjq (by first | omega | (exfalso; omega) | (dsimp only; omega)) hlt, part_hi hhijq hxiq hyjq (by first | omega | (exfalso; omega) | (dsimp only; omega)) hlt⟩ ((.cons rfl (.cons rfl (.cons rfl (.cons rfl .nil))))) rfl ?_
          rintro ⟨k, l, M2⟩ ⟨hai, hij, hjb, hsh2, hpv2, hlo, hhi⟩
          dsimp only at hai hij hjb hsh2 hpv2 hlo hhi
          refine Gx.know (m' := [(0, v), (1, .int .i64 ((a : Nat) : Int)), (10, .int .i64 ((k : Nat) : Int)), (11, .int .i64 ((l : Nat) : Int))]) (.cons rfl (.cons rfl (.cons rfl (.cons rfl .nil)))) (Gx.norm (l' := [Hp.own FU 1 v M2, R]) rfl ?_)
          have hM2 := hsh2.len
          refine Gx.block ?_
          refine Gx.seq ?_
          refine Gx.block ?_
          refine Gx.loop (ι := Nat) (fun ξ => (a + 1 ≤ ξ) ∧ (ξ ≤ l + 1) ∧ (k ≤ ξ) ∧ (All (fun z => z < pv) (a + 1) ξ M2)) (fun ξ => [(0, v), (1, .int .i64 ((a : Nat) : Int)), (10, .int .i64 ((ξ : Nat) : Int)), (11, .int .i64 ((l : Nat) : Int))]) (fun ξ => [Hp.own FU 1 v M2, R]) (fun ξ => l + 1 - ξ) k ⟨by first | omega | (dsimp only; omega), by first | omega | (dsimp only; omega), by first | omega | (dsimp only; omega), hlo⟩ ((.cons rfl (.cons rfl (.cons rfl (.cons rfl .nil))))) rfl ?_
          rintro kq ⟨haikq, hijkq, hiikq, hlokq⟩
          refine Gx.know (m' := [(0, v), (1, .int .i64 ((a : Nat) : Int)), (10, .int .i64 ((kq : Nat) : Int)), (11, .int .i64 ((l : Nat) : Int))]) (.cons rfl (.cons rfl (.cons rfl (.cons rfl .nil)))) (Gx.norm (l' := [Hp.own FU 1 v M2, R]) rfl ?_)
          refine Gx.seq ?_
          refine Gx.seq ?_
          refine Gx.regionQ Try.mixed (by kernel_rfl) ?_
          refine Gq.val rfl rfl rfl (val_move rfl rfl) ?_
          refine Gq.val rfl rfl rfl (val_move rfl rfl) ?_
          refine Gq.val rfl rfl rfl (val_leq rfl rfl rfl) ?_
          refine Gq.val rfl rfl rfl (val_move rfl rfl) ?_
          refine Gq.cases (t := 102) rfl (fun h43 => ?_) (fun h43 => ?_)
          · obtain ⟨xkq, hxkq⟩ := get_of_lt (xs := M2) (k := kq) (by omega)
            refine Gq.valg rfl rfl rfl rfl rfl (val_move rfl rfl) ?_
            refine Gq.valg rfl rfl rfl rfl rfl (val_move rfl rfl) ?_
            refine Gq.valg rfl rfl rfl rfl rfl (val_ixa rfl Try.underlying22 Try.ty28 rfl rfl (j := kq) (rfl) (reach_own (k := 0) rfl hxkq)) ?_
            refine Gq.valg rfl rfl rfl rfl rfl (val_load rfl Try.ty28 rfl rfl (cell_own (i := 0) (k := 0) rfl hxkq rfl)) ?_
            refine Gq.valg rfl rfl rfl rfl rfl (val_move rfl rfl) ?_
            refine Gq.valg rfl rfl rfl rfl rfl (val_move rfl rfl) ?_
            refine Gq.valg rfl rfl rfl rfl rfl (val_ixa rfl Try.underlying22 Try.ty28 rfl rfl (j := a) (rfl) (reach_own (k := 0) rfl hpv2)) ?_
            refine Gq.valg rfl rfl rfl rfl rfl (val_load rfl Try.ty28 rfl rfl (cell_own (i := 0) (k := 0) rfl hpv2 rfl)) ?_
            refine Gq.valg rfl rfl rfl rfl rfl (val_call (vs := [.int .u32 ((xkq : Nat) : Int), .int .u32 ((pv : Nat) : Int)]) rfl Try.fn47 rfl (fun w H => less_any xkq pv)) ?_
            refine Gq.val rfl rfl rfl (val_pickT rfl rfl rfl) ?_
            refine Gq.done ?_
            refine Gx.thenN ?_
            refine Gx.dec rfl (fun h44 => ?_) (fun h44 => ?_)
            · refine Gx.skip ?_
              refine Gx.thenN ?_
              refine Gx.block ?_
              refine Gx.region ?_
              refine Gx.val rfl rfl rfl (val_move rfl rfl) ?_
              refine Gx.val rfl rfl rfl (val_add rfl rfl rfl (r := ((kq + 1 : Nat) : Int)) (w64 (by omega) (by omega))) ?_
              refine Gx.val rfl rfl rfl (val_assign rfl rfl) ?_
              refine Gx.done ?_
              refine Gx.blkN ?_
              refine Gx.thenN ?_
              exact Gx.round (kq + 1) ⟨by first | omega | (dsimp only; omega), by first | omega | (dsimp only; omega), by first | omega | (dsimp only; omega), hlokq.snoc hxkq (by first | omega | (dsimp only; omega))⟩ (by first | omega | (dsimp only; omega)) ((.cons rfl (.cons rfl (.cons rfl (.cons rfl .nil))))) rfl
            · refine Gx.exit ?_
              refine Gx.thenE ?_
              refine Gx.thenE ?_
              refine Gx.blkE ?_
              refine Gx.thenN ?_
              refine Gx.seq ?_
              refine Gx.block ?_
              refine Gx.loop (ι := Nat) (fun ξ => (ξ + 1 ≤ b) ∧ (kq ≤ ξ + 1) ∧ (ξ ≤ l) ∧ (All (fun z => ¬ z < pv) (ξ + 1) b M2)) (fun ξ => [(0, v), (1, .int .i64 ((a : Nat) : Int)), (10, .int .i64 ((kq : Nat) : Int)), (11, .int .i64 ((ξ : Nat) : Int))]) (fun ξ => [Hp.own FU 1 v M2, R]) (fun ξ => ξ) l ⟨by first | omega | (dsimp only; omega), by first | omega | (dsimp only; omega), by first | omega | (dsimp only; omega), hhi⟩ ((.cons rfl (.cons rfl (.cons rfl (.cons rfl .nil))))) rfl ?_
              rintro lq ⟨hjblq, hijlq, hjjlq, hhilq⟩
              refine Gx.know (m' := [(0, v), (1, .int .i64 ((a : Nat) : Int)), (10, .int .i64 ((kq : Nat) : Int)), (11, .int .i64 ((lq : Nat) : Int))]) (.cons rfl (.cons rfl (.cons rfl (.cons rfl .nil)))) (Gx.norm (l' := [Hp.own FU 1 v M2, R]) rfl ?_)
              refine Gx.seq ?_
              refine Gx.seq ?_
              refine Gx.regionQ Try.mixed (by kernel_rfl) ?_
              refine Gq.val rfl rfl rfl (val_move rfl rfl) ?_
              refine Gq.val rfl rfl rfl (val_move rfl rfl) ?_
              refine Gq.val rfl rfl rfl (val_leq rfl rfl rfl) ?_
              refine Gq.val rfl rfl rfl (val_move rfl rfl) ?_
              refine Gq.cases (t := 118) rfl (fun h45 => ?_) (fun h45 => ?_)
              · obtain ⟨ylq, hylq⟩ := get_of_lt (xs := M2) (k := lq) (by omega)
                refine Gq.valg rfl rfl rfl rfl rfl (val_move rfl rfl) ?_
                refine Gq.valg rfl rfl rfl rfl rfl (val_move rfl rfl) ?_
                refine Gq.valg rfl rfl rfl rfl rfl (val_ixa rfl Try.underlying22 Try.ty28 rfl rfl (j := lq) (rfl) (reach_own (k := 0) rfl hylq)) ?_
                refine Gq.valg rfl rfl rfl rfl rfl (val_load rfl Try.ty28 rfl rfl (cell_own (i := 0) (k := 0) rfl hylq rfl)) ?_
                refine Gq.valg rfl rfl rfl rfl rfl (val_move rfl rfl) ?_
                refine Gq.valg rfl rfl rfl rfl rfl (val_move rfl rfl) ?_
                refine Gq.valg rfl rfl rfl rfl rfl (val_ixa rfl Try.underlying22 Try.ty28 rfl rfl (j := a) (rfl) (reach_own (k := 0) rfl hpv2)) ?_
                refine Gq.valg rfl rfl rfl rfl rfl (val_load rfl Try.ty28 rfl rfl (cell_own (i := 0) (k := 0) rfl hpv2 rfl)) ?_
                refine Gq.valg rfl rfl rfl rfl rfl (val_call (vs := [.int .u32 ((ylq : Nat) : Int), .int .u32 ((pv : Nat) : Int)]) rfl Try.fn47 rfl (fun w H => less_any ylq pv)) ?_
                refine Gq.valg rfl rfl rfl rfl rfl (val_notD rfl rfl) ?_
                refine Gq.val rfl rfl rfl (val_pickT rfl rfl rfl) ?_
                refine Gq.done ?_
                refine Gx.thenN ?_
                refine Gx.dec rfl (fun h46 => ?_) (fun h46 => ?_)
                · refine Gx.skip ?_
                  refine Gx.thenN ?_
                  refine Gx.block ?_
                  refine Gx.region ?_
                  refine Gx.val rfl rfl rfl (val_move rfl rfl) ?_
                  refine Gx.val rfl rfl rfl (val_sub rfl rfl rfl (r := ((lq - 1 : Nat) : Int)) (w64 (by omega) (by omega))) ?_
                  refine Gx.val rfl rfl rfl (val_assign rfl rfl) ?_
                  refine Gx.done ?_
                  refine Gx.blkN ?_
                  refine Gx.thenN ?_
                  exact Gx.round (lq - 1) ⟨by first | omega | (dsimp only; omega), by first | omega | (dsimp only; omega), by first | omega | (dsimp only; omega), hhilq.cons hylq (by first | omega | (dsimp only; omega)) (by omega)⟩ (by first | omega | (dsimp only; omega)) ((.cons rfl (.cons rfl (.cons rfl (.cons rfl .nil))))) rfl
                · refine Gx.exit ?_
                  refine Gx.thenE ?_
                  refine Gx.thenE ?_
                  refine Gx.blkE ?_
                  refine Gx.thenN ?_
                  refine Gx.seq ?_
                  refine Gx.seq ?_
                  refine Gx.region ?_
                  refine Gx.val rfl rfl rfl (val_move rfl rfl) ?_
                  refine Gx.val rfl rfl rfl (val_move rfl rfl) ?_
                  refine Gx.val rfl rfl rfl (val_gtr rfl rfl rfl) ?_
                  refine Gx.done ?_
                  refine Gx.thenN ?_
                  refine Gx.dec rfl (fun h47 => ?_) (fun h47 => ?_)
                  · refine Gx.exit ?_
                    refine Gx.thenE ?_
                    refine Gx.blkO rfl ?_
                    refine Gx.thenE ?_
                    refine Gx.blkE ?_
                    refine Gx.thenN ?_
                    refine Gx.seq ?_
                    obtain ⟨e1, e2, e3⟩ := part_end (fun k z h0 h1 => hlokq k z h0 (by omega)) hhilq hylq hpv2 (by omega)
                    have hshe := Sh.swap hsh2 (by omega) (by omega) (by omega) (by omega) hylq hpv2
                    refine Gx.regionO (fun j => j == 13) 15 [0, 1, 2, 3, 4, 5, 6, 7, 8, 9, 10, 11, 12, 13, 14] (fun us => match us with | [] => [Hp.own FU 1 v M2, R] | u1 :: _ => [Hp.own FU 1 v (M2.set lq pv), R]) Try.mixed (by kernel_rfl) rfl ?_
                    refine Gw.val rfl rfl rfl rfl rfl (fun us => val_move rfl rfl) ?_
                    refine Gw.val rfl rfl rfl rfl rfl (fun us => val_move rfl rfl) ?_
                    refine Gw.val rfl rfl rfl rfl rfl (fun us => val_move rfl rfl) ?_
                    refine Gw.val rfl rfl rfl rfl rfl (fun us => val_move rfl rfl) ?_
                    refine Gw.val rfl rfl rfl rfl rfl (fun us => val_move rfl rfl) ?_
                    refine Gw.val rfl rfl rfl rfl rfl (fun us => val_move rfl rfl) ?_
                    refine Gw.val0 rfl rfl rfl (by kernel_rfl) rfl rfl (val_ixa rfl Try.underlying22 Try.ty28 rfl rfl (j := a) (rfl) (reach_own (k := 0) rfl hpv2)) ?_
                    refine Gw.val0 rfl rfl rfl (by kernel_rfl) rfl rfl (val_load rfl Try.ty28 rfl rfl (cell_own (i := 0) (k := 0) rfl hpv2 rfl)) ?_
                    refine Gw.val rfl rfl rfl rfl rfl (fun us => val_move rfl rfl) ?_
                    refine Gw.val rfl rfl rfl rfl rfl (fun us => val_move rfl rfl) ?_
                    obtain ⟨x48, hx48⟩ := get_of_lt (xs := M2.set lq pv) (k := lq) (by first | omega | (simp; omega))
                    refine Gw.val rfl rfl rfl rfl rfl (fun us => match us with | [] => val_ixa rfl Try.underlying22 Try.ty28 rfl rfl (j := lq) (rfl) (reach_own (k := 0) rfl hylq) | u1 :: _ => val_ixa rfl Try.underlying22 Try.ty28 rfl rfl (j := lq) (rfl) (reach_own (k := 0) rfl hx48)) ?_
                    refine Gw.val0 rfl rfl rfl (by kernel_rfl) rfl rfl (val_load rfl Try.ty28 rfl rfl (cell_own (i := 0) (k := 0) rfl hylq rfl)) ?_
                    refine Gw.val0 rfl rfl rfl (by kernel_rfl) rfl rfl (val_ixa rfl Try.underlying22 Try.ty28 rfl rfl (j := lq) (rfl) (reach_own (k := 0) rfl hylq)) ?_
                    refine Gw.chg0 rfl rfl rfl rfl (Eff.mono (eff_storeElA pv rfl Try.ty28 rfl rfl rfl FU_one (k := 0) rfl FU_len hylq (l' := [Hp.own FU 1 v (M2.set lq pv), R]) rfl) (fun _ _ h => congrArg sep h)) (fun _ => ?_)
                    obtain ⟨x49, hx49⟩ := get_of_lt (xs := M2.set lq pv) (k := a) (by first | omega | (simp; omega))
                    refine Gw.val0 rfl rfl rfl (by kernel_rfl) rfl rfl (val_ixa rfl Try.underlying22 Try.ty28 rfl rfl (j := a) (rfl) (reach_own (k := 0) rfl hx49)) ?_
                    refine Gw.done ?_
                    refine Gx.norm (l' := [Hp.own FU 1 v (M2.set lq pv), R]) rfl ?_
                    refine Gx.eff0 rfl rfl (eff_storeElA ylq rfl Try.ty28 rfl rfl rfl FU_one (k := 0) rfl FU_len hx49 (l' := [Hp.own FU 1 v ((M2.set lq pv).set a ylq), R]) rfl) ?_
                    rintro _ _ rfl
                    refine Gx.done ?_
                    refine Gx.thenN ?_
                    refine Gx.seq ?_
                    refine Gx.region ?_
                    refine Gx.val rfl rfl rfl (val_move rfl rfl) ?_
                    refine Gx.val rfl rfl rfl (val_assign rfl rfl) ?_
                    refine Gx.val rfl rfl rfl (val_assign rfl rfl) ?_
                    refine Gx.done ?_
                    refine Gx.thenN ?_
                    refine Gx.ret ?_
                    refine Gx.ret2 Try.results49 rfl rfl ?_
                    exact ⟨_, _, _, hshe, by omega, by omega, e1, e2, fun k z h0 h1 hz => Nat.not_lt.1 (e3 k z h0 h1 hz), rfl, sep1 _ _⟩
                  · refine Gx.skip ?_
                    refine Gx.thenN ?_
                    refine Gx.seq ?_
                    have hlt : kq < lq := by first | (exfalso; omega) | exact part_lt (P := (fun z => z < pv)) (Q := (fun z => ¬ z < pv)) hxkq hylq (by first | omega | (dsimp only; omega)) (by first | omega | (dsimp only; omega)) (fun z h => by first | omega | (dsimp only at *; omega)) (by omega)
                    refine Gx.regionO (fun j => j == 13) 15 [0, 1, 2, 3, 4, 5, 6, 7, 8, 9, 10, 11, 12, 13, 14] (fun us => match us with | [] => [Hp.own FU 1 v M2, R] | u1 :: _ => [Hp.own FU 1 v (M2.set kq ylq), R]) Try.mixed (by kernel_rfl) rfl ?_
                    refine Gw.val rfl rfl rfl rfl rfl (fun us => val_move rfl rfl) ?_
                    refine Gw.val rfl rfl rfl rfl rfl (fun us => val_move rfl rfl) ?_
                    refine Gw.val rfl rfl rfl rfl rfl (fun us => val_move rfl rfl) ?_
                    refine Gw.val rfl rfl rfl rfl rfl (fun us => val_move rfl rfl) ?_
                    refine Gw.val rfl rfl rfl rfl rfl (fun us => val_move rfl rfl) ?_
                    refine Gw.val rfl rfl rfl rfl rfl (fun us => val_move rfl rfl) ?_
                    refine Gw.val0 rfl rfl rfl (by kernel_rfl) rfl rfl (val_ixa rfl Try.underlying22 Try.ty28 rfl rfl (j := lq) (rfl) (reach_own (k := 0) rfl hylq)) ?_
                    refine Gw.val0 rfl rfl rfl (by kernel_rfl) rfl rfl (val_load rfl Try.ty28 rfl rfl (cell_own (i := 0) (k := 0) rfl hylq rfl)) ?_
                    refine Gw.val rfl rfl rfl rfl rfl (fun us => val_move rfl rfl) ?_
                    refine Gw.val rfl rfl rfl rfl rfl (fun us => val_move rfl rfl) ?_
                    obtain ⟨x50, hx50⟩ := get_of_lt (xs := M2.set kq ylq) (k := kq) (by first | omega | (simp; omega))
                    refine Gw.val rfl rfl rfl rfl rfl (fun us => match us with | [] => val_ixa rfl Try.underlying22 Try.ty28 rfl rfl (j := kq) (rfl) (reach_own (k := 0) rfl hxkq) | u1 :: _ => val_ixa rfl Try.underlying22 Try.ty28 rfl rfl (j := kq) (rfl) (reach_own (k := 0) rfl hx50)) ?_
                    refine Gw.val0 rfl rfl rfl (by kernel_rfl) rfl rfl (val_load rfl Try.ty28 rfl rfl (cell_own (i := 0) (k := 0) rfl hxkq rfl)) ?_
                    refine Gw.val0 rfl rfl rfl (by kernel_rfl) rfl rfl (val_ixa rfl Try.underlying22 Try.ty28 rfl rfl (j := kq) (rfl) (reach_own (k := 0) rfl hxkq)) ?_
                    refine Gw.chg0 rfl rfl rfl rfl (Eff.mono (eff_storeElA ylq rfl Try.ty28 rfl rfl rfl FU_one (k := 0) rfl FU_len hxkq (l' := [Hp.own FU 1 v (M2.set kq ylq), R]) rfl) (fun _ _ h => congrArg sep h)) (fun _ => ?_)
                    obtain ⟨x51, hx51⟩ := get_of_lt (xs := M2.set kq ylq) (k := lq) (by first | omega | (simp; omega))
                    refine Gw.val0 rfl rfl rfl (by kernel_rfl) rfl rfl (val_ixa rfl Try.underlying22 Try.ty28 rfl rfl (j := lq) (rfl) (reach_own (k := 0) rfl hx51)) ?_
                    refine Gw.done ?_
                    refine Gx.norm (l' := [Hp.own FU 1 v (M2.set kq ylq), R]) rfl ?_
                    refine Gx.eff0 rfl rfl (eff_storeElA xkq rfl Try.ty28 rfl rfl rfl FU_one (k := 0) rfl FU_len hx51 (l' := [Hp.own FU 1 v ((M2.set kq ylq).set lq xkq), R]) rfl) ?_
                    rintro _ _ rfl
                    refine Gx.done ?_
                    refine Gx.thenN ?_
                    refine Gx.seq ?_
                    refine Gx.region ?_
                    refine Gx.val rfl rfl rfl (val_move rfl rfl) ?_
                    refine Gx.val rfl rfl rfl (val_add rfl rfl rfl (r := ((kq + 1 : Nat) : Int)) (w64 (by omega) (by omega))) ?_
                    refine Gx.val rfl rfl rfl (val_assign rfl rfl) ?_
                    refine Gx.done ?_
                    refine Gx.thenN ?_
                    refine Gx.region ?_
                    refine Gx.val rfl rfl rfl (val_move rfl rfl) ?_
                    refine Gx.val rfl rfl rfl (val_sub rfl rfl rfl (r := ((lq - 1 : Nat) : Int)) (w64 (by omega) (by omega))) ?_
                    refine Gx.val rfl rfl rfl (val_assign rfl rfl) ?_
                    refine Gx.done ?_
                    refine Gx.blkN ?_
                    refine Gx.thenN ?_
                    exact Gx.round (kq + 1, lq - 1, (M2.set kq ylq).set lq xkq) ⟨by first | omega | (dsimp only; omega), by first | omega | (dsimp only; omega), by first | omega | (dsimp only; omega), Sh.swap hsh2 (by omega) (by omega) (by omega) (by omega) hxkq hylq, part_keep hpv2 hxkq hylq (by omega) (by omega), part_lo hlokq hxkq hylq (by first | omega | (exfalso; omega) | (dsimp only; omega)) hlt, part_hi hhilq hxkq hylq (by first | omega | (exfalso; omega) | (dsimp only; omega)) hlt⟩ (by first | omega | (dsimp only; omega)) ((.cons rfl (.cons rfl (.cons rfl (.cons rfl .nil))))) rfl
              · refine Gq.skipg rfl rfl rfl rfl rfl rfl ?_
                refine Gq.skipg rfl rfl rfl rfl rfl rfl ?_
                refine Gq.skipg rfl rfl rfl rfl rfl rfl ?_
                refine Gq.skipg rfl rfl rfl rfl rfl rfl ?_
                refine Gq.skipg rfl rfl rfl rfl rfl rfl ?_
                refine Gq.skipg rfl rfl rfl rfl rfl rfl ?_
                refine Gq.skipg rfl rfl rfl rfl rfl rfl ?_
                refine Gq.skipg rfl rfl rfl rfl rfl rfl ?_
                refine Gq.skipg rfl rfl rfl rfl rfl rfl ?_
                refine Gq.skipg rfl rfl rfl rfl rfl rfl ?_
                refine Gq.val rfl rfl rfl (val_pickF rfl rfl rfl) ?_
                refine Gq.done ?_
                refine Gx.thenN ?_
                refine Gx.f rfl ?_
                refine Gx.exit ?_
                refine Gx.thenE ?_
                refine Gx.thenE ?_
                refine Gx.blkE ?_
                refine Gx.thenN ?_
                refine Gx.seq ?_
                refine Gx.seq ?_
                refine Gx.region ?_
                refine Gx.val rfl rfl rfl (val_move rfl rfl) ?_
                refine Gx.val rfl rfl rfl (val_move rfl rfl) ?_
                refine Gx.val rfl rfl rfl (val_gtr rfl rfl rfl) ?_
                refine Gx.done ?_
                refine Gx.thenN ?_
                refine Gx.dec rfl (fun h52 => ?_) (fun h52 => ?_)
                · refine Gx.exit ?_
                  refine Gx.thenE ?_
                  refine Gx.blkO rfl ?_
                  refine Gx.thenE ?_
                  refine Gx.blkE ?_
                  refine Gx.thenN ?_
                  refine Gx.seq ?_
                  obtain ⟨ylq, hylq⟩ := get_of_lt (xs := M2) (k := lq) (by omega)
                  obtain ⟨e1, e2, e3⟩ := part_end (fun k z h0 h1 => hlokq k z h0 (by omega)) hhilq hylq hpv2 (by omega)
                  have hshe := Sh.swap hsh2 (by omega) (by omega) (by omega) (by omega) hylq hpv2
                  refine Gx.regionO (fun j => j == 13) 15 [0, 1, 2, 3, 4, 5, 6, 7, 8, 9, 10, 11, 12, 13, 14] (fun us => match us with | [] => [Hp.own FU 1 v M2, R] | u1 :: _ => [Hp.own FU 1 v (M2.set lq pv), R]) Try.mixed (by kernel_rfl) rfl ?_
                  refine Gw.val rfl rfl rfl rfl rfl (fun us => val_move rfl rfl) ?_
                  refine Gw.val rfl rfl rfl rfl rfl (fun us => val_move rfl rfl) ?_
                  refine Gw.val rfl rfl rfl rfl rfl (fun us => val_move rfl rfl) ?_
                  refine Gw.val rfl rfl rfl rfl rfl (fun us => val_move rfl rfl) ?_
                  refine Gw.val rfl rfl rfl rfl rfl (fun us => val_move rfl rfl) ?_
                  refine Gw.val rfl rfl rfl rfl rfl (fun us => val_move rfl rfl) ?_
                  refine Gw.val0 rfl rfl rfl (by kernel_rfl) rfl rfl (val_ixa rfl Try.underlying22 Try.ty28 rfl rfl (j := a) (rfl) (reach_own (k := 0) rfl hpv2)) ?_
                  refine Gw.val0 rfl rfl rfl (by kernel_rfl) rfl rfl (val_load rfl Try.ty28 rfl rfl (cell_own (i := 0) (k := 0) rfl hpv2 rfl)) ?_
                  refine Gw.val rfl rfl rfl rfl rfl (fun us => val_move rfl rfl) ?_
                  refine Gw.val rfl rfl rfl rfl rfl (fun us => val_move rfl rfl) ?_
                  obtain ⟨x53, hx53⟩ := get_of_lt (xs := M2.set lq pv) (k := lq) (by first | omega | (simp; omega))
                  refine Gw.val rfl rfl rfl rfl rfl (fun us => match us with | [] => val_ixa rfl Try.underlying22 Try.ty28 rfl rfl (j := lq) (rfl) (reach_own (k := 0) rfl hylq) | u1 :: _ => val_ixa rfl Try.underlying22 Try.ty28 rfl rfl (j := lq) (rfl) (reach_own (k := 0) rfl hx53)) ?_
                  refine Gw.val0 rfl rfl rfl (by kernel_rfl) rfl rfl (val_load rfl Try.ty28 rfl rfl (cell_own (i := 0) (k := 0) rfl hylq rfl)) ?_
                  refine Gw.val0 rfl rfl rfl (by kernel_rfl) rfl rfl (val_ixa rfl Try.underlying22 Try.ty28 rfl rfl (j := lq) (rfl) (reach_own (k := 0) rfl hylq)) ?_
                  refine Gw.chg0 rfl rfl rfl rfl (Eff.mono (eff_storeElA pv rfl Try.ty28 rfl rfl rfl FU_one (k := 0) rfl FU_len hylq (l' := [Hp.own FU 1 v (M2.set lq pv), R]) rfl) (fun _ _ h => congrArg sep h)) (fun _ => ?_)
                  obtain ⟨x54, hx54⟩ := get_of_lt (xs := M2.set lq pv) (k := a) (by first | omega | (simp; omega))
                  refine Gw.val0 rfl rfl rfl (by kernel_rfl) rfl rfl (val_ixa rfl Try.underlying22 Try.ty28 rfl rfl (j := a) (rfl) (reach_own (k := 0) rfl hx54)) ?_
                  refine Gw.done ?_
                  refine Gx.norm (l' := [Hp.own FU 1 v (M2.set lq pv), R]) rfl ?_
                  refine Gx.eff0 rfl rfl (eff_storeElA ylq rfl Try.ty28 rfl rfl rfl FU_one (k := 0) rfl FU_len hx54 (l' := [Hp.own FU 1 v ((M2.set lq pv).set a ylq), R]) rfl) ?_
                  rintro _ _ rfl
                  refine Gx.done ?_
                  refine Gx.thenN ?_
                  refine Gx.seq ?_
                  refine Gx.region ?_
                  refine Gx.val rfl rfl rfl (val_move rfl rfl) ?_
                  refine Gx.val rfl rfl rfl (val_assign rfl rfl) ?_
                  refine Gx.val rfl rfl rfl (val_assign rfl rfl) ?_
                  refine Gx.done ?_
                  refine Gx.thenN ?_
                  refine Gx.ret ?_
                  refine Gx.ret2 Try.results49 rfl rfl ?_
                  exact ⟨_, _, _, hshe, by omega, by omega, e1, e2, fun k z h0 h1 hz => Nat.not_lt.1 (e3 k z h0 h1 hz), rfl, sep1 _ _⟩
                · refine Gx.skip ?_
                  refine Gx.thenN ?_
                  refine Gx.seq ?_
                  obtain ⟨ylq, hylq⟩ := get_of_lt (xs := M2) (k := lq) (by omega)
                  have hlt : kq < lq := by first | (exfalso; omega) | exact part_lt (P := (fun z => z < pv)) (Q := (fun z => ¬ z < pv)) hxkq hylq (by first | omega | (dsimp only; omega)) (by first | omega | (dsimp only; omega)) (fun z h => by first | omega | (dsimp only at *; omega)) (by omega)
                  refine Gx.regionO (fun j => j == 13) 15 [0, 1, 2, 3, 4, 5, 6, 7, 8, 9, 10, 11, 12, 13, 14] (fun us => match us with | [] => [Hp.own FU 1 v M2, R] | u1 :: _ => [Hp.own FU 1 v (M2.set kq ylq), R]) Try.mixed (by kernel_rfl) rfl ?_
                  refine Gw.val rfl rfl rfl rfl rfl (fun us => val_move rfl rfl) ?_
                  refine Gw.val rfl rfl rfl rfl rfl (fun us => val_move rfl rfl) ?_
                  refine Gw.val rfl rfl rfl rfl rfl (fun us => val_move rfl rfl) ?_
                  refine Gw.val rfl rfl rfl rfl rfl (fun us => val_move rfl rfl) ?_
                  refine Gw.val rfl rfl rfl rfl rfl (fun us => val_move rfl rfl) ?_
                  refine Gw.val rfl rfl rfl rfl rfl (fun us => val_move rfl rfl) ?_
                  refine Gw.val0 rfl rfl rfl (by kernel_rfl) rfl rfl (val_ixa rfl Try.underlying22 Try.ty28 rfl rfl (j := lq) (rfl) (reach_own (k := 0) rfl hylq)) ?_
                  refine Gw.val0 rfl rfl rfl (by kernel_rfl) rfl rfl (val_load rfl Try.ty28 rfl rfl (cell_own (i := 0) (k := 0) rfl hylq rfl)) ?_
                  refine Gw.val rfl rfl rfl rfl rfl (fun us => val_move rfl rfl) ?_
                  refine Gw.val rfl rfl rfl rfl rfl (fun us => val_move rfl rfl) ?_
                  obtain ⟨x55, hx55⟩ := get_of_lt (xs := M2.set kq ylq) (k := kq) (by first | omega | (simp; omega))
                  refine Gw.val rfl rfl rfl rfl rfl (fun us => match us with | [] => val_ixa rfl Try.underlying22 Try.ty28 rfl rfl (j := kq) (rfl) (reach_own (k := 0) rfl hxkq) | u1 :: _ => val_ixa rfl Try.underlying22 Try.ty28 rfl rfl (j := kq) (rfl) (reach_own (k := 0) rfl hx55)) ?_
                  refine Gw.val0 rfl rfl rfl (by kernel_rfl) rfl rfl (val_load rfl Try.ty28 rfl rfl (cell_own (i := 0) (k := 0) rfl hxkq rfl)) ?_
                  refine Gw.val0 rfl rfl rfl (by kernel_rfl) rfl rfl (val_ixa rfl Try.underlying22 Try.ty28 rfl rfl (j := kq) (rfl) (reach_own (k := 0) rfl hxkq)) ?_
                  refine Gw.chg0 rfl rfl rfl rfl (Eff.mono (eff_storeElA ylq rfl Try.ty28 rfl rfl rfl FU_one (k := 0) rfl FU_len hxkq (l' := [Hp.own FU 1 v (M2.set kq ylq), R]) rfl) (fun _ _ h => congrArg sep h)) (fun _ => ?_)
                  obtain ⟨x56, hx56⟩ := get_of_lt (xs := M2.set kq ylq) (k := lq) (by first | omega | (simp; omega))
                  refine Gw.val0 rfl rfl rfl (by kernel_rfl) rfl rfl (val_ixa rfl Try.underlying22 Try.ty28 rfl rfl (j := lq) (rfl) (reach_own (k := 0) rfl hx56)) ?_
                  refine Gw.done ?_
                  refine Gx.norm (l' := [Hp.own FU 1 v (M2.set kq ylq), R]) rfl ?_
                  refine Gx.eff0 rfl rfl (eff_storeElA xkq rfl Try.ty28 rfl rfl rfl FU_one (k := 0) rfl FU_len hx56 (l' := [Hp.own FU 1 v ((M2.set kq ylq).set lq xkq), R]) rfl) ?_
                  rintro _ _ rfl
                  refine Gx.done ?_
                  refine Gx.thenN ?_
                  refine Gx.seq ?_
                  refine Gx.region ?_
                  refine Gx.val rfl rfl rfl (val_move rfl rfl) ?_
                  refine Gx.val rfl rfl rfl (val_add rfl rfl rfl (r := ((kq + 1 : Nat) : Int)) (w64 (by omega) (by omega))) ?_
                  refine Gx.val rfl rfl rfl (val_assign rfl rfl) ?_
                  refine Gx.done ?_
                  refine Gx.thenN ?_
                  refine Gx.region ?_
                  refine Gx.val rfl rfl rfl (val_move rfl rfl) ?_
                  refine Gx.val rfl rfl rfl (val_sub rfl rfl rfl (r := ((lq - 1 : Nat) : Int)) (w64 (by omega) (by omega))) ?_
                  refine Gx.val rfl rfl rfl (val_assign rfl rfl) ?_
                  refine Gx.done ?_
                  refine Gx.blkN ?_
                  refine Gx.thenN ?_
                  exact Gx.round (kq + 1, lq - 1, (M2.set kq ylq).set lq xkq) ⟨by first | omega | (dsimp only; omega), by first | omega | (dsimp only; omega), by first | omega | (dsimp only; omega), Sh.swap hsh2 (by omega) (by omega) (by omega) (by omega) hxkq hylq, part_keep hpv2 hxkq hylq (by omega) (by omega), part_lo hlokq hxkq hylq (by first | omega | (exfalso; omega) | (dsimp only; omega)) hlt, part_hi hhilq hxkq hylq (by first | omega | (exfalso; omega) | (dsimp only; omega)) hlt⟩ (by first | omega | (dsimp only; omega)) ((.cons rfl (.cons rfl (.cons rfl (.cons rfl .nil))))) rfl
          · refine Gq.skipg rfl rfl rfl rfl rfl rfl ?_
            refine Gq.skipg rfl rfl rfl rfl rfl rfl ?_
            refine Gq.skipg rfl rfl rfl rfl rfl rfl ?_
            refine Gq.skipg rfl rfl rfl rfl rfl rfl ?_
            refine Gq.skipg rfl rfl rfl rfl rfl rfl ?_
            refine Gq.skipg rfl rfl rfl rfl rfl rfl ?_
            refine Gq.skipg rfl rfl rfl rfl rfl rfl ?_
            refine Gq.skipg rfl rfl rfl rfl rfl rfl ?_
            refine Gq.skipg rfl rfl rfl rfl rfl rfl ?_
            refine Gq.val rfl rfl rfl (val_pickF rfl rfl rfl) ?_
            refine Gq.done ?_
            refine Gx.thenN ?_
            refine Gx.f rfl ?_
            refine Gx.exit ?_
            refine Gx.thenE ?_
            refine Gx.thenE ?_
            refine Gx.blkE ?_
            refine Gx.thenN ?_
            refine Gx.seq ?_
            refine Gx.block ?_
            refine Gx.loop (ι := Nat) (fun ξ => (ξ + 1 ≤ b) ∧ (kq ≤ ξ + 1) ∧ (ξ ≤ l) ∧ (All (fun z => ¬ z < pv) (ξ + 1) b M2)) (fun ξ => [(0, v), (1, .int .i64 ((a : Nat) : Int)), (10, .int .i64 ((kq : Nat) : Int)), (11, .int .i64 ((ξ : Nat) : Int))]) (fun ξ => [Hp.own FU 1 v M2, R]) (fun ξ => ξ) l ⟨by first | omega | (dsimp only; omega), by first | omega | (dsimp only; omega), by first | omega | (dsimp only; omega), hhi⟩ ((.cons rfl (.cons rfl (.cons rfl (.cons rfl .nil))))) rfl ?_
            rintro lq ⟨hjblq, hijlq, hjjlq, hhilq⟩
            refine Gx.know (m' := [(0, v), (1, .int .i64 ((a : Nat) : Int)), (10, .int .i64 ((kq : Nat) : Int)), (11, .int .i64 ((lq : Nat) : Int))]) (.cons rfl (.cons rfl (.cons rfl (.cons rfl .nil)))) (Gx.norm (l' := [Hp.own FU 1 v M2, R]) rfl ?_)
            refine Gx.seq ?_
            refine Gx.seq ?_
            refine Gx.regionQ Try.mixed (by kernel_rfl) ?_
            refine Gq.val rfl rfl rfl (val_move rfl rfl) ?_
            refine Gq.val rfl rfl rfl (val_move rfl rfl) ?_
            refine Gq.val rfl rfl rfl (val_leq rfl rfl rfl) ?_
            refine Gq.val rfl rfl rfl (val_move rfl rfl) ?_
            refine Gq.cases (t := 118) rfl (fun h57 => ?_) (fun h57 => ?_)
            · obtain ⟨ylq, hylq⟩ := get_of_lt (xs := M2) (k := lq) (by omega)
              refine Gq.valg rfl rfl rfl rfl rfl (val_move rfl rfl) ?_
              refine Gq.valg rfl rfl rfl rfl rfl (val_move rfl rfl) ?_
              refine Gq.valg rfl rfl rfl rfl rfl (val_ixa rfl Try.underlying22 Try.ty28 rfl rfl (j := lq) (rfl) (reach_own (k := 0) rfl hylq)) ?_
              refine Gq.valg rfl rfl rfl rfl rfl (val_load rfl Try.ty28 rfl rfl (cell_own (i := 0) (k := 0) rfl hylq rfl)) ?_
              refine Gq.valg rfl rfl rfl rfl rfl (val_move rfl rfl) ?_
              refine Gq.valg rfl rfl rfl rfl rfl (val_move rfl rfl) ?_
              refine Gq.valg rfl rfl rfl rfl rfl (val_ixa rfl Try.underlying22 Try.ty28 rfl rfl (j := a) (rfl) (reach_own (k := 0) rfl hpv2)) ?_
              refine Gq.valg rfl rfl rfl rfl rfl (val_load rfl Try.ty28 rfl rfl (cell_own (i := 0) (k := 0) rfl hpv2 rfl)) ?_
              refine Gq.valg rfl rfl rfl rfl rfl (val_call (vs := [.int .u32 ((ylq : Nat) : Int), .int .u32 ((pv : Nat) : Int)]) rfl Try.fn47 rfl (fun w H => less_any ylq pv)) ?_
              refine Gq.valg rfl rfl rfl rfl rfl (val_notD rfl rfl) ?_
              refine Gq.val rfl rfl rfl (val_pickT rfl rfl rfl) ?_
              refine Gq.done ?_
              refine Gx.thenN ?_
              refine Gx.dec rfl (fun h58 => ?_) (fun h58 => ?_)
              · refine Gx.skip ?_
                refine Gx.thenN ?_
                refine Gx.block ?_
                refine Gx.region ?_
                refine Gx.val rfl rfl rfl (val_move rfl rfl) ?_
                refine Gx.val rfl rfl rfl (val_sub rfl rfl rfl (r := ((lq - 1 : Nat) : Int)) (w64 (by omega) (by omega))) ?_
                refine Gx.val rfl rfl rfl (val_assign rfl rfl) ?_
                refine Gx.done ?_
                refine Gx.blkN ?_
                refine Gx.thenN ?_
                exact Gx.round (lq - 1) ⟨by first | omega | (dsimp only; omega), by first | omega | (dsimp only; omega), by first | omega | (dsimp only; omega), hhilq.cons hylq (by first | omega | (dsimp only; omega)) (by omega)⟩ (by first | omega | (dsimp only; omega)) ((.cons rfl (.cons rfl (.cons rfl (.cons rfl .nil))))) rfl
              · refine Gx.exit ?_
                refine Gx.thenE ?_
                refine Gx.thenE ?_
                refine Gx.blkE ?_
                refine Gx.thenN ?_
                refine Gx.seq ?_
                refine Gx.seq ?_
                refine Gx.region ?_
                refine Gx.val rfl rfl rfl (val_move rfl rfl) ?_
                refine Gx.val rfl rfl rfl (val_move rfl rfl) ?_
                refine Gx.val rfl rfl rfl (val_gtr rfl rfl rfl) ?_
                refine Gx.done ?_
                refine Gx.thenN ?_
                refine Gx.dec rfl (fun h59 => ?_) (fun h59 => ?_)
                · refine Gx.exit ?_
                  refine Gx.thenE ?_
                  refine Gx.blkO rfl ?_
                  refine Gx.thenE ?_
                  refine Gx.blkE ?_
                  refine Gx.thenN ?_
                  refine Gx.seq ?_
                  obtain ⟨e1, e2, e3⟩ := part_end (fun k z h0 h1 => hlokq k z h0 (by omega)) hhilq hylq hpv2 (by omega)
                  have hshe := Sh.swap hsh2 (by omega) (by omega) (by omega) (by omega) hylq hpv2
                  refine Gx.regionO (fun j => j == 13) 15 [0, 1, 2, 3, 4, 5, 6, 7, 8, 9, 10, 11, 12, 13, 14] (fun us => match us with | [] => [Hp.own FU 1 v M2, R] | u1 :: _ => [Hp.own FU 1 v (M2.set lq pv), R]) Try.mixed (by kernel_rfl) rfl ?_
                  refine Gw.val rfl rfl rfl rfl rfl (fun us => val_move rfl rfl) ?_
                  refine Gw.val rfl rfl rfl rfl rfl (fun us => val_move rfl rfl) ?_
                  refine Gw.val rfl rfl rfl rfl rfl (fun us => val_move rfl rfl) ?_
                  refine Gw.val rfl rfl rfl rfl rfl (fun us => val_move rfl rfl) ?_
                  refine Gw.val rfl rfl rfl rfl rfl (fun us => val_move rfl rfl) ?_
                  refine Gw.val rfl rfl rfl rfl rfl (fun us => val_move rfl rfl) ?_
                  refine Gw.val0 rfl rfl rfl (by kernel_rfl) rfl rfl (val_ixa rfl Try.underlying22 Try.ty28 rfl rfl (j := a) (rfl) (reach_own (k := 0) rfl hpv2)) ?_
                  refine Gw.val0 rfl rfl rfl (by kernel_rfl) rfl rfl (val_load rfl Try.ty28 rfl rfl (cell_own (i := 0) (k := 0) rfl hpv2 rfl)) ?_
                  refine Gw.val rfl rfl rfl rfl rfl (fun us => val_move rfl rfl) ?_
                  refine Gw.val rfl rfl rfl rfl rfl (fun us => val_move rfl rfl) ?_
                  obtain ⟨x60, hx60⟩ := get_of_lt (xs := M2.set lq pv) (k := lq) (by first | omega | (simp; omega))
                  refine Gw.val rfl rfl rfl rfl rfl (fun us => match us with | [] => val_ixa rfl Try.underlying22 Try.ty28 rfl rfl (j := lq) (rfl) (reach_own (k := 0) rfl hylq) | u1 :: _ => val_ixa rfl Try.underlying22 Try.ty28 rfl rfl (j := lq) (rfl) (reach_own (k := 0) rfl hx60)) ?_
                  refine Gw.val0 rfl rfl rfl (by kernel_rfl) rfl rfl (val_load rfl Try.ty28 rfl rfl (cell_own (i := 0) (k := 0) rfl hylq rfl)) ?_
                  refine Gw.val0 rfl rfl rfl (by kernel_rfl) rfl rfl (val_ixa rfl Try.underlying22 Try.ty28 rfl rfl (j := lq) (rfl) (reach_own (k := 0) rfl hylq)) ?_
                  refine Gw.chg0 rfl rfl rfl rfl (Eff.mono (eff_storeElA pv rfl Try.ty28 rfl rfl rfl FU_one (k := 0) rfl FU_len hylq (l' := [Hp.own FU 1 v (M2.set lq pv), R]) rfl) (fun _ _ h => congrArg sep h)) (fun _ => ?_)
                  obtain ⟨x61, hx61⟩ := get_of_lt (xs := M2.set lq pv) (k := a) (by first | omega | (simp; omega))
                  refine Gw.val0 rfl rfl rfl (by kernel_rfl) rfl rfl (val_ixa rfl Try.underlying22 Try.ty28 rfl rfl (j := a) (rfl) (reach_own (k := 0) rfl hx61)) ?_
                  refine Gw.done ?_
                  refine Gx.norm (l' := [Hp.own FU 1 v (M2.set lq pv), R]) rfl ?_
                  refine Gx.eff0 rfl rfl (eff_storeElA ylq rfl Try.ty28 rfl rfl rfl FU_one (k := 0) rfl FU_len hx61 (l' := [Hp.own FU 1 v ((M2.set lq pv).set a ylq), R]) rfl) ?_
                  rintro _ _ rfl
                  refine Gx.done ?_
                  refine Gx.thenN ?_
                  refine Gx.seq ?_
                  refine Gx.region ?_
                  refine Gx.val rfl rfl rfl (val_move rfl rfl) ?_
                  refine Gx.val rfl rfl rfl (val_assign rfl rfl) ?_
                  refine Gx.val rfl rfl rfl (val_assign rfl rfl) ?_
                  refine Gx.done ?_
                  refine Gx.thenN ?_
                  refine Gx.ret ?_
                  refine Gx.ret2 Try.results49 rfl rfl ?_
                  exact ⟨_, _, _, hshe, by omega, by omega, e1, e2, fun k z h0 h1 hz => Nat.not_lt.1 (e3 k z h0 h1 hz), rfl, sep1 _ _⟩
                · refine Gx.skip ?_
                  refine Gx.thenN ?_
                  refine Gx.seq ?_
                  obtain ⟨xkq, hxkq⟩ := get_of_lt (xs := M2) (k := kq) (by omega)
                  have hlt : kq < lq := by first | (exfalso; omega) | exact part_lt (P := (fun z => z < pv)) (Q := (fun z => ¬ z < pv)) hxkq hylq (by first | omega | (dsimp only; omega)) (by first | omega | (dsimp only; omega)) (fun z h => by first | omega | (dsimp only at *; omega)) (by omega)
                  refine Gx.regionO (fun j => j == 13) 15 [0, 1, 2, 3, 4, 5, 6, 7, 8, 9, 10, 11, 12, 13, 14] (fun us => match us with | [] => [Hp.own FU 1 v M2, R] | u1 :: _ => [Hp.own FU 1 v (M2.set kq ylq), R]) Try.mixed (by kernel_rfl) rfl ?_
                  refine Gw.val rfl rfl rfl rfl rfl (fun us => val_move rfl rfl) ?_
                  refine Gw.val rfl rfl rfl rfl rfl (fun us => val_move rfl rfl) ?_
                  refine Gw.val rfl rfl rfl rfl rfl (fun us => val_move rfl rfl) ?_
                  refine Gw.val rfl rfl rfl rfl rfl (fun us => val_move rfl rfl) ?_
                  refine Gw.val rfl rfl rfl rfl rfl (fun us => val_move rfl rfl) ?_
                  refine Gw.val rfl rfl rfl rfl rfl (fun us => val_move rfl rfl) ?_
                  refine Gw.val0 rfl rfl rfl (by kernel_rfl) rfl rfl (val_ixa rfl Try.underlying22 Try.ty28 rfl rfl (j := lq) (rfl) (reach_own (k := 0) rfl hylq)) ?_
                  refine Gw.val0 rfl rfl rfl (by kernel_rfl) rfl rfl (val_load rfl Try.ty28 rfl rfl (cell_own (i := 0) (k := 0) rfl hylq rfl)) ?_
                  refine Gw.val rfl rfl rfl rfl rfl (fun us => val_move rfl rfl) ?_
                  refine Gw.val rfl rfl rfl rfl rfl (fun us => val_move rfl rfl) ?_
                  obtain ⟨x62, hx62⟩ := get_of_lt (xs := M2.set kq ylq) (k := kq) (by first | omega | (simp; omega))
                  refine Gw.val rfl rfl rfl rfl rfl (fun us => match us with | [] => val_ixa rfl Try.underlying22 Try.ty28 rfl rfl (j := kq) (rfl) (reach_own (k := 0) rfl hxkq) | u1 :: _ => val_ixa rfl Try.underlying22 Try.ty28 rfl rfl (j := kq) (rfl) (reach_own (k := 0) rfl hx62)) ?_
                  refine Gw.val0 rfl rfl rfl (by kernel_rfl) rfl rfl (val_load rfl Try.ty28 rfl rfl (cell_own (i := 0) (k := 0) rfl hxkq rfl)) ?_
                  refine Gw.val0 rfl rfl rfl (by kernel_rfl) rfl rfl (val_ixa rfl Try.underlying22 Try.ty28 rfl rfl (j := kq) (rfl) (reach_own (k := 0) rfl hxkq)) ?_
                  refine Gw.chg0 rfl rfl rfl rfl (Eff.mono (eff_storeElA ylq rfl Try.ty28 rfl rfl rfl FU_one (k := 0) rfl FU_len hxkq (l' := [Hp.own FU 1 v (M2.set kq ylq), R]) rfl) (fun _ _ h => congrArg sep h)) (fun _ => ?_)
                  obtain ⟨x63, hx63⟩ := get_of_lt (xs := M2.set kq ylq) (k := lq) (by first | omega | (simp; omega))
                  refine Gw.val0 rfl rfl rfl (by kernel_rfl) rfl rfl (val_ixa rfl Try.underlying22 Try.ty28 rfl rfl (j := lq) (rfl) (reach_own (k := 0) rfl hx63)) ?_
                  refine Gw.done ?_
                  refine Gx.norm (l' := [Hp.own FU 1 v (M2.set kq ylq), R]) rfl ?_
                  refine Gx.eff0 rfl rfl (eff_storeElA xkq rfl Try.ty28 rfl rfl rfl FU_one (k := 0) rfl FU_len hx63 (l' := [Hp.own FU 1 v ((M2.set kq ylq).set lq xkq), R]) rfl) ?_
                  rintro _ _ rfl
                  refine Gx.done ?_
                  refine Gx.thenN ?_
                  refine Gx.seq ?_
                  refine Gx.region ?_
                  refine Gx.val rfl rfl rfl (val_move rfl rfl) ?_
                  refine Gx.val rfl rfl rfl (val_add rfl rfl rfl (r := ((kq + 1 : Nat) : Int)) (w64 (by omega) (by omega))) ?_
                  refine Gx.val rfl rfl rfl (val_assign rfl rfl) ?_
                  refine Gx.done ?_
                  refine Gx.thenN ?_
                  refine Gx.region ?_
                  refine Gx.val rfl rfl rfl (val_move rfl rfl) ?_
                  refine Gx.val rfl rfl rfl (val_sub rfl rfl rfl (r := ((lq - 1 : Nat) : Int)) (w64 (by omega) (by omega))) ?_
                  refine Gx.val rfl rfl rfl (val_assign rfl rfl) ?_
                  refine Gx.done ?_
                  refine Gx.blkN ?_
                  refine Gx.thenN ?_
                  exact Gx.round (kq + 1, lq - 1, (M2.set kq ylq).set lq xkq) ⟨by first | omega | (dsimp only; omega), by first | omega | (dsimp only; omega), by first | omega | (dsimp only; omega), Sh.swap hsh2 (by omega) (by omega) (by omega) (by omega) hxkq hylq, part_keep hpv2 hxkq hylq (by omega) (by omega), part_lo hlokq hxkq hylq (by first | omega | (exfalso; omega) | (dsimp only; omega)) hlt, part_hi hhilq hxkq hylq (by first | omega | (exfalso; omega) | (dsimp only; omega)) hlt⟩ (by first | omega | (dsimp only; omega)) ((.cons rfl (.cons rfl (.cons rfl (.cons rfl .nil))))) rfl
            · refine Gq.skipg rfl rfl rfl rfl rfl rfl ?_
              refine Gq.skipg rfl rfl rfl rfl rfl rfl ?_
              refine Gq.skipg rfl rfl rfl rfl rfl rfl ?_
              refine Gq.skipg rfl rfl rfl rfl rfl rfl ?_
              refine Gq.skipg rfl rfl rfl rfl rfl rfl ?_
              refine Gq.skipg rfl rfl rfl rfl rfl rfl ?_
              refine Gq.skipg rfl rfl rfl rfl rfl rfl ?_
              refine Gq.skipg rfl rfl rfl rfl rfl rfl ?_
              refine Gq.skipg rfl rfl rfl rfl rfl rfl ?_
              refine Gq.skipg rfl rfl rfl rfl rfl rfl ?_
              refine Gq.val rfl rfl rfl (val_pickF rfl rfl rfl) ?_
              refine Gq.done ?_
              refine Gx.thenN ?_
              refine Gx.f rfl ?_
              refine Gx.exit ?_
              refine Gx.thenE ?_
              refine Gx.thenE ?_
              refine Gx.blkE ?_
              refine Gx.thenN ?_
              refine Gx.seq ?_
              refine Gx.seq ?_
              refine Gx.region ?_
              refine Gx.val rfl rfl rfl (val_move rfl rfl) ?_
              refine Gx.val rfl rfl rfl (val_move rfl rfl) ?_
              refine Gx.val rfl rfl rfl (val_gtr rfl rfl rfl) ?_
              refine Gx.done ?_
              refine Gx.thenN ?_
              refine Gx.dec rfl (fun h64 => ?_) (fun h64 => ?_)
              · refine Gx.exit ?_
                refine Gx.thenE ?_
                refine Gx.blkO rfl ?_
                refine Gx.thenE ?_
                refine Gx.blkE ?_
                refine Gx.thenN ?_
                refine Gx.seq ?_
                obtain ⟨ylq, hylq⟩ := get_of_lt (xs := M2) (k := lq) (by omega)
                obtain ⟨e1, e2, e3⟩ := part_end (fun k z h0 h1 => hlokq k z h0 (by omega)) hhilq hylq hpv2 (by omega)
                have hshe := Sh.swap hsh2 (by omega) (by omega) (by omega) (by omega) hylq hpv2
                refine Gx.regionO (fun j => j == 13) 15 [0, 1, 2, 3, 4, 5, 6, 7, 8, 9, 10, 11, 12, 13, 14] (fun us => match us with | [] => [Hp.own FU 1 v M2, R] | u1 :: _ => [Hp.own FU 1 v (M2.set lq pv), R]) Try.mixed (by kernel_rfl) rfl ?_
                refine Gw.val rfl rfl rfl rfl rfl (fun us => val_move rfl rfl) ?_
                refine Gw.val rfl rfl rfl rfl rfl (fun us => val_move rfl rfl) ?_
                refine Gw.val rfl rfl rfl rfl rfl (fun us => val_move rfl rfl) ?_
                refine Gw.val rfl rfl rfl rfl rfl (fun us => val_move rfl rfl) ?_
                refine Gw.val rfl rfl rfl rfl rfl (fun us => val_move rfl rfl) ?_
                refine Gw.val rfl rfl rfl rfl rfl (fun us => val_move rfl rfl) ?_
                refine Gw.val0 rfl rfl rfl (by kernel_rfl) rfl rfl (val_ixa rfl Try.underlying22 Try.ty28 rfl rfl (j := a) (rfl) (reach_own (k := 0) rfl hpv2)) ?_
                refine Gw.val0 rfl rfl rfl (by kernel_rfl) rfl rfl (val_load rfl Try.ty28 rfl rfl (cell_own (i := 0) (k := 0) rfl hpv2 rfl)) ?_
                refine Gw.val rfl rfl rfl rfl rfl (fun us => val_move rfl rfl) ?_
                refine Gw.val rfl rfl rfl rfl rfl (fun us => val_move rfl rfl) ?_
                obtain ⟨x65, hx65⟩ := get_of_lt (xs := M2.set lq pv) (k := lq) (by first | omega | (simp; omega))
                refine Gw.val rfl rfl rfl rfl rfl (fun us => match us with | [] => val_ixa rfl Try.underlying22 Try.ty28 rfl rfl (j := lq) (rfl) (reach_own (k := 0) rfl hylq) | u1 :: _ => val_ixa rfl Try.underlying22 Try.ty28 rfl rfl (j := lq) (rfl) (reach_own (k := 0) rfl hx65)) ?_
                refine Gw.val0 rfl rfl rfl (by kernel_rfl) rfl rfl (val_load rfl Try.ty28 rfl rfl (cell_own (i := 0) (k := 0) rfl hylq rfl)) ?_
                refine Gw.val0 rfl rfl rfl (by kernel_rfl) rfl rfl (val_ixa rfl Try.underlying22 Try.ty28 rfl rfl (j := lq) (rfl) (reach_own (k := 0) rfl hylq)) ?_
                refine Gw.chg0 rfl rfl rfl rfl (Eff.mono (eff_storeElA pv rfl Try.ty28 rfl rfl rfl FU_one (k := 0) rfl FU_len hylq (l' := [Hp.own FU 1 v (M2.set lq pv), R]) rfl) (fun _ _ h => congrArg sep h)) (fun _ => ?_)
                obtain ⟨x66, hx66⟩ := get_of_lt (xs := M2.set lq pv) (k := a) (by first | omega | (simp; omega))
                refine Gw.val0 rfl rfl rfl (by kernel_rfl) rfl rfl (val_ixa rfl Try.underlying22 Try.ty28 rfl rfl (j := a) (rfl) (reach_own (k := 0) rfl hx66)) ?_
                refine Gw.done ?_
                refine Gx.norm (l' := [Hp.own FU 1 v (M2.set lq pv), R]) rfl ?_
                refine Gx.eff0 rfl rfl (eff_storeElA ylq rfl Try.ty28 rfl rfl rfl FU_one (k := 0) rfl FU_len hx66 (l' := [Hp.own FU 1 v ((M2.set lq pv).set a ylq), R]) rfl) ?_
                rintro _ _ rfl
                refine Gx.done ?_
                refine Gx.thenN ?_
                refine Gx.seq ?_
                refine Gx.region ?_
                refine Gx.val rfl rfl rfl (val_move rfl rfl) ?_
                refine Gx.val rfl rfl rfl (val_assign rfl rfl) ?_
                refine Gx.val rfl rfl rfl (val_assign rfl rfl) ?_
                refine Gx.done ?_
                refine Gx.thenN ?_
                refine Gx.ret ?_
                refine Gx.ret2 Try.results49 rfl rfl ?_
                exact ⟨_, _, _, hshe, by omega, by omega, e1, e2, fun k z h0 h1 hz => Nat.not_lt.1 (e3 k z h0 h1 hz), rfl, sep1 _ _⟩
              · refine Gx.skip ?_
                refine Gx.thenN ?_
                refine Gx.seq ?_
                obtain ⟨xkq, hxkq⟩ := get_of_lt (xs := M2) (k := kq) (by omega)
                obtain ⟨ylq, hylq⟩ := get_of_lt (xs := M2) (k := lq) (by omega)
                have hlt : kq < lq := by first | (exfalso; omega) | exact part_lt (P := (fun z => z < pv)) (Q := (fun z => ¬ z < pv)) hxkq hylq (by first | omega | (dsimp only; omega)) (by first | omega | (dsimp only; omega)) (fun z h => by first | omega | (dsimp only at *; omega)) (by omega)
                refine Gx.regionO (fun j => j == 13) 15 [0, 1, 2, 3, 4, 5, 6, 7, 8, 9, 10, 11, 12, 13, 14] (fun us => match us with | [] => [Hp.own FU 1 v M2, R] | u1 :: _ => [Hp.own FU 1 v (M2.set kq ylq), R]) Try.mixed (by kernel_rfl) rfl ?_
                refine Gw.val rfl rfl rfl rfl rfl (fun us => val_move rfl rfl) ?_
                refine Gw.val rfl rfl rfl rfl rfl (fun us => val_move rfl rfl) ?_
                refine Gw.val rfl rfl rfl rfl rfl (fun us => val_move rfl rfl) ?_
                refine Gw.val rfl rfl rfl rfl rfl (fun us => val_move rfl rfl) ?_
                refine Gw.val rfl rfl rfl rfl rfl (fun us => val_move rfl rfl) ?_
                refine Gw.val rfl rfl rfl rfl rfl (fun us => val_move rfl rfl) ?_
                refine Gw.val0 rfl rfl rfl (by kernel_rfl) rfl rfl (val_ixa rfl Try.underlying22 Try.ty28 rfl rfl (j := lq) (rfl) (reach_own (k := 0) rfl hylq)) ?_
                refine Gw.val0 rfl rfl rfl (by kernel_rfl) rfl rfl (val_load rfl Try.ty28 rfl rfl (cell_own (i := 0) (k := 0) rfl hylq rfl)) ?_
                refine Gw.val rfl rfl rfl rfl rfl (fun us => val_move rfl rfl) ?_
                refine Gw.val rfl rfl rfl rfl rfl (fun us => val_move rfl rfl) ?_
                obtain ⟨x67, hx67⟩ := get_of_lt (xs := M2.set kq ylq) (k := kq) (by first | omega | (simp; omega))
                refine Gw.val rfl rfl rfl rfl rfl (fun us => match us with | [] => val_ixa rfl Try.underlying22 Try.ty28 rfl rfl (j := kq) (rfl) (reach_own (k := 0) rfl hxkq) | u1 :: _ => val_ixa rfl Try.underlying22 Try.ty28 rfl rfl (j := kq) (rfl) (reach_own (k := 0) rfl hx67)) ?_
                refine Gw.val0 rfl rfl rfl (by kernel_rfl) rfl rfl (val_load rfl Try.ty28 rfl rfl (cell_own (i := 0) (k := 0) rfl hxkq rfl)) ?_
                refine Gw.val0 rfl rfl rfl (by kernel_rfl) rfl rfl (val_ixa rfl Try.underlying22 Try.ty28 rfl rfl (j := kq) (rfl) (reach_own (k := 0) rfl hxkq)) ?_
                refine Gw.chg0 rfl rfl rfl rfl (Eff.mono (eff_storeElA ylq rfl Try.ty28 rfl rfl rfl FU_one (k := 0) rfl FU_len hxkq (l' := [Hp.own FU 1 v (M2.set kq ylq), R]) rfl) (fun _ _ h => congrArg sep h)) (fun _ => ?_)
                obtain ⟨x68, hx68⟩ := get_of_lt (xs := M2.set kq ylq) (k := lq) (by first | omega | (simp; omega))
                refine Gw.val0 rfl rfl rfl (by kernel_rfl) rfl rfl (val_ixa rfl Try.underlying22 Try.ty28 rfl rfl (j := lq) (rfl) (reach_own (k := 0) rfl hx68)) ?_
                refine Gw.done ?_
                refine Gx.norm (l' := [Hp.own FU 1 v (M2.set kq ylq), R]) rfl ?_
                refine Gx.eff0 rfl rfl (eff_storeElA xkq rfl Try.ty28 rfl rfl rfl FU_one (k := 0) rfl FU_len hx68 (l' := [Hp.own FU 1 v ((M2.set kq ylq).set lq xkq), R]) rfl) ?_
                rintro _ _ rfl
                refine Gx.done ?_
                refine Gx.thenN ?_
                refine Gx.seq ?_
                refine Gx.region ?_
                refine Gx.val rfl rfl rfl (val_move rfl rfl) ?_
                refine Gx.val rfl rfl rfl (val_add rfl rfl rfl (r := ((kq + 1 : Nat) : Int)) (w64 (by omega) (by omega))) ?_
                refine Gx.val rfl rfl rfl (val_assign rfl rfl) ?_
                refine Gx.done ?_
                refine Gx.thenN ?_
                refine Gx.region ?_
                refine Gx.val rfl rfl rfl (val_move rfl rfl) ?_
                refine Gx.val rfl rfl rfl (val_sub rfl rfl rfl (r := ((lq - 1 : Nat) : Int)) (w64 (by omega) (by omega))) ?_
                refine Gx.val rfl rfl rfl (val_assign rfl rfl) ?_
                refine Gx.done ?_
                refine Gx.blkN ?_
                refine Gx.thenN ?_
                exact Gx.round (kq + 1, lq - 1, (M2.set kq ylq).set lq xkq) ⟨by first | omega | (dsimp only; omega), by first | omega | (dsimp only; omega), by first | omega | (dsimp only; omega), Sh.swap hsh2 (by omega) (by omega) (by omega) (by omega) hxkq hylq, part_keep hpv2 hxkq hylq (by omega) (by omega), part_lo hlokq hxkq hylq (by first | omega | (exfalso; omega) | (dsimp only; omega)) hlt, part_hi hhilq hxkq hylq (by first | omega | (exfalso; omega) | (dsimp only; omega)) hlt⟩ (by first | omega | (dsimp only; omega)) ((.cons rfl (.cons rfl (.cons rfl (.cons rfl .nil))))) rfl
  · refine Gq.skipg rfl rfl rfl rfl rfl rfl ?_
    refine Gq.skipg rfl rfl rfl rfl rfl rfl ?_
    refine Gq.skipg rfl rfl rfl rfl rfl rfl ?_
    refine Gq.skipg rfl rfl rfl rfl rfl rfl ?_
    refine Gq.skipg rfl rfl rfl rfl rfl rfl ?_
    refine Gq.skipg rfl rfl rfl rfl rfl rfl ?_
    refine Gq.skipg rfl rfl rfl rfl rfl rfl ?_
    refine Gq.skipg rfl rfl rfl rfl rfl rfl ?_
    refine Gq.skipg rfl rfl rfl rfl rfl rfl ?_
    refine Gq.val rfl rfl rfl (val_pickF rfl rfl rfl) ?_
    refine Gq.done ?_
    refine Gx.thenN ?_
    refine Gx.f rfl ?_
    refine Gx.exit ?_
    refine Gx.thenE ?_
    refine Gx.thenE ?_
    refine Gx.blkE ?_
    refine Gx.thenN ?_
    refine Gx.seq ?_
    refine Gx.block ?_
    refine Gx.loop (ι := Nat) (fun ξ => (ξ + 1 ≤ b) ∧ (iq ≤ ξ + 1) ∧ (ξ ≤ b - 1) ∧ (All (fun z => ¬ z < pv) (ξ + 1) b M)) (fun ξ => [(0, v), (1, .int .i64 ((a : Nat) : Int)), (10, .int .i64 ((iq : Nat) : Int)), (11, .int .i64 ((ξ : Nat) : Int))]) (fun ξ => [Hp.own FU 1 v M, R]) (fun ξ => ξ) (b - 1) ⟨by first | omega | (dsimp only; omega), by first | omega | (dsimp only; omega), by first | omega | (dsimp only; omega), fun k z h0 h1 => by first | omega | (dsimp only at h0 h1; omega)⟩ ((.cons rfl (.cons rfl (.cons rfl (.cons rfl .nil))))) rfl ?_
    rintro jq ⟨hjbjq, hijjq, hjjjq, hhijq⟩
    refine Gx.know (m' := [(0, v), (1, .int .i64 ((a : Nat) : Int)), (10, .int .i64 ((iq : Nat) : Int)), (11, .int .i64 ((jq : Nat) : Int))]) (.cons rfl (.cons rfl (.cons rfl (.cons rfl .nil)))) (Gx.norm (l' := [Hp.own FU 1 v M, R]) rfl ?_)
    refine Gx.seq ?_
    refine Gx.seq ?_
    refine Gx.regionQ Try.mixed (by kernel_rfl) ?_
    refine Gq.val rfl rfl rfl (val_move rfl rfl) ?_
    refine Gq.val rfl rfl rfl (val_move rfl rfl) ?_
    refine Gq.val rfl rfl rfl (val_leq rfl rfl rfl) ?_
    refine Gq.val rfl rfl rfl (val_move rfl rfl) ?_
    refine Gq.cases (t := 49) rfl (fun h69 => ?_) (fun h69 => ?_)
    · obtain ⟨yjq, hyjq⟩ := get_of_lt (xs := M) (k := jq) (by omega)
      refine Gq.valg rfl rfl rfl rfl rfl (val_move rfl rfl) ?_
      refine Gq.valg rfl rfl rfl rfl rfl (val_move rfl rfl) ?_
      refine Gq.valg rfl rfl rfl rfl rfl (val_ixa rfl Try.underlying22 Try.ty28 rfl rfl (j := jq) (rfl) (reach_own (k := 0) rfl hyjq)) ?_
      refine Gq.valg rfl rfl rfl rfl rfl (val_load rfl Try.ty28 rfl rfl (cell_own (i := 0) (k := 0) rfl hyjq rfl)) ?_
      refine Gq.valg rfl rfl rfl rfl rfl (val_move rfl rfl) ?_
      refine Gq.valg rfl rfl rfl rfl rfl (val_move rfl rfl) ?_
      refine Gq.valg rfl rfl rfl rfl rfl (val_ixa rfl Try.underlying22 Try.ty28 rfl rfl (j := a) (rfl) (reach_own (k := 0) rfl hpv)) ?_
      refine Gq.valg rfl rfl rfl rfl rfl (val_load rfl Try.ty28 rfl rfl (cell_own (i := 0) (k := 0) rfl hpv rfl)) ?_
      refine Gq.valg rfl rfl rfl rfl rfl (val_call (vs := [.int .u32 ((yjq : Nat) : Int), .int .u32 ((pv : Nat) : Int)]) rfl Try.fn47 rfl (fun w H => less_any yjq pv)) ?_
      refine Gq.valg rfl rfl rfl rfl rfl (val_notD rfl rfl) ?_
      refine Gq.val rfl rfl rfl (val_pickT rfl rfl rfl) ?_
      refine Gq.done ?_
      refine Gx.thenN ?_
      refine Gx.dec rfl (fun h70 => ?_) (fun h70 => ?_)
      · refine Gx.skip ?_
        refine Gx.thenN ?_
        refine Gx.block ?_
        refine Gx.region ?_
        refine Gx.val rfl rfl rfl (val_move rfl rfl) ?_
        refine Gx.val rfl rfl rfl (val_sub rfl rfl rfl (r := ((jq - 1 : Nat) : Int)) (w64 (by omega) (by omega))) ?_
        refine Gx.val rfl rfl rfl (val_assign rfl rfl) ?_
        refine Gx.done ?_
        refine Gx.blkN ?_
        refine Gx.thenN ?_
        exact Gx.round (jq - 1) ⟨by first | omega | (dsimp only; omega), by first | omega | (dsimp only; omega), by first | omega | (dsimp only; omega), hhijq.cons hyjq (by first | omega | (dsimp only; omega)) (by omega)⟩ (by first | omega | (dsimp only; omega)) ((.cons rfl (.cons rfl (.cons rfl (.cons rfl .nil))))) rfl
      · refine Gx.exit ?_
        refine Gx.thenE ?_
        refine Gx.thenE ?_
        refine Gx.blkE ?_
        refine Gx.thenN ?_
        refine Gx.seq ?_
        refine Gx.seq ?_
        refine Gx.region ?_
        refine Gx.val rfl rfl rfl (val_move rfl rfl) ?_
        refine Gx.val rfl rfl rfl (val_move rfl rfl) ?_
        refine Gx.val rfl rfl rfl (val_gtr rfl rfl rfl) ?_
        refine Gx.done ?_
        refine Gx.thenN ?_
        refine Gx.dec rfl (fun h71 => ?_) (fun h71 => ?_)
        · refine Gx.seq ?_
          obtain ⟨e1, e2, e3⟩ := part_end (fun k z h0 h1 => hloiq k z h0 (by omega)) hhijq hyjq hpv (by omega)
          have hshe := Sh.swap hsh (by omega) (by omega) (by omega) (by omega) hyjq hpv
          refine Gx.regionO (fun j => j == 13) 15 [0, 1, 2, 3, 4, 5, 6, 7, 8, 9, 10, 11, 12, 13, 14] (fun us => match us with | [] => [Hp.own FU 1 v M, R] | u1 :: _ => [Hp.own FU 1 v (M.set jq pv), R]) Try.mixed (by kernel_rfl) rfl ?_
          refine Gw.val rfl rfl rfl rfl rfl (fun us => val_move rfl rfl) ?_
          refine Gw.val rfl rfl rfl rfl rfl (fun us => val_move rfl rfl) ?_
          refine Gw.val rfl rfl rfl rfl rfl (fun us => val_move rfl rfl) ?_
          refine Gw.val rfl rfl rfl rfl rfl (fun us => val_move rfl rfl) ?_
          refine Gw.val rfl rfl rfl rfl rfl (fun us => val_move rfl rfl) ?_
          refine Gw.val rfl rfl rfl rfl rfl (fun us => val_move rfl rfl) ?_
          refine Gw.val0 rfl rfl rfl (by kernel_rfl) rfl rfl (val_ixa rfl Try.underlying22 Try.ty28 rfl rfl (j := a) (rfl) (reach_own (k := 0) rfl hpv)) ?_
          refine Gw.val0 rfl rfl rfl (by kernel_rfl) rfl rfl (val_load rfl Try.ty28 rfl rfl (cell_own (i := 0) (k := 0) rfl hpv rfl)) ?_
          refine Gw.val rfl rfl rfl rfl rfl (fun us => val_move rfl rfl) ?_
          refine Gw.val rfl rfl rfl rfl rfl (fun us => val_move rfl rfl) ?_
          obtain ⟨x72, hx72⟩ := get_of_lt (xs := M.set jq pv) (k := jq) (by first | omega | (simp; omega))
          refine Gw.val rfl rfl rfl rfl rfl (fun us => match us with | [] => val_ixa rfl Try.underlying22 Try.ty28 rfl rfl (j := jq) (rfl) (reach_own (k := 0) rfl hyjq) | u1 :: _ => val_ixa rfl Try.underlying22 Try.ty28 rfl rfl (j := jq) (rfl) (reach_own (k := 0) rfl hx72)) ?_
          refine Gw.val0 rfl rfl rfl (by kernel_rfl) rfl rfl (val_load rfl Try.ty28 rfl rfl (cell_own (i := 0) (k := 0) rfl hyjq rfl)) ?_
          refine Gw.val0 rfl rfl rfl (by kernel_rfl) rfl rfl (val_ixa rfl Try.underlying22 Try.ty28 rfl rfl (j := jq) (rfl) (reach_own (k := 0) rfl hyjq)) ?_
          refine Gw.chg0 rfl rfl rfl rfl (Eff.mono (eff_storeElA pv rfl Try.ty28 rfl rfl rfl FU_one (k := 0) rfl FU_len hyjq (l' := [Hp.own FU 1 v (M.set jq pv), R]) rfl) (fun _ _ h => congrArg sep h)) (fun _ => ?_)
          obtain ⟨x73, hx73⟩ := get_of_lt (xs := M.set jq pv) (k := a) (by first | omega | (simp; omega))
          refine Gw.val0 rfl rfl rfl (by kernel_rfl) rfl rfl (val_ixa rfl Try.underlying22 Try.ty28 rfl rfl (j := a) (rfl) (reach_own (k := 0) rfl hx73)) ?_
          refine Gw.done ?_
          refine Gx.norm (l' := [Hp.own FU 1 v (M.set jq pv), R]) rfl ?_
          refine Gx.eff0 rfl rfl (eff_storeElA yjq rfl Try.ty28 rfl rfl rfl FU_one (k := 0) rfl FU_len hx73 (l' := [Hp.own FU 1 v ((M.set jq pv).set a yjq), R]) rfl) ?_
          rintro _ _ rfl
          refine Gx.done ?_
          refine Gx.thenN ?_
          refine Gx.seq ?_
          refine Gx.region ?_
          refine Gx.val rfl rfl rfl (val_move rfl rfl) ?_
          refine Gx.val rfl rfl rfl (val_assign rfl rfl) ?_
          refine Gx.val rfl rfl rfl (val_assign rfl rfl) ?_
          refine Gx.done ?_
          refine Gx.thenN ?_
          refine Gx.ret ?_
          refine Gx.thenR ?_
          refine Gx.ret2 Try.results49 rfl rfl ?_
          exact ⟨_, _, _, hshe, by omega, by omega, e1, e2, fun k z h0 h1 hz => Nat.not_lt.1 (e3 k z h0 h1 hz), rfl, sep1 _ _⟩
        · refine Gx.skip ?_
          refine Gx.thenN ?_
          refine Gx.seq ?_
          obtain ⟨xiq, hxiq⟩ := get_of_lt (xs := M) (k := iq) (by omega)
          have hlt : iq < jq := by first | (exfalso; omega) | exact part_lt (P := (fun z => z < pv)) (Q := (fun z => ¬ z < pv)) hxiq hyjq (by first | omega | (dsimp only; omega)) (by first | omega | (dsimp only; omega)) (fun z h => by first | omega | (dsimp only at *; omega)) (by omega)
          refine Gx.regionO (fun j => j == 13) 15 [0, 1, 2, 3, 4, 5, 6, 7, 8, 9, 10, 11, 12, 13, 14] (fun us => match us with | [] => [Hp.own FU 1 v M, R] | u1 :: _ => [Hp.own FU 1 v (M.set iq yjq), R]) Try.mixed (by kernel_rfl) rfl ?_
          refine Gw.val rfl rfl rfl rfl rfl (fun us => val_move rfl rfl) ?_
          refine Gw.val rfl rfl rfl rfl rfl (fun us => val_move rfl rfl) ?_
          refine Gw.val rfl rfl rfl rfl rfl (fun us => val_move rfl rfl) ?_
          refine Gw.val rfl rfl rfl rfl rfl (fun us => val_move rfl rfl) ?_
          refine Gw.val rfl rfl rfl rfl rfl (fun us => val_move rfl rfl) ?_
          refine Gw.val rfl rfl rfl rfl rfl (fun us => val_move rfl rfl) ?_
          refine Gw.val0 rfl rfl rfl (by kernel_rfl) rfl rfl (val_ixa rfl Try.underlying22 Try.ty28 rfl rfl (j := jq) (rfl) (reach_own (k := 0) rfl hyjq)) ?_
          refine Gw.val0 rfl rfl rfl (by kernel_rfl) rfl rfl (val_load rfl Try.ty28 rfl rfl (cell_own (i := 0) (k := 0) rfl hyjq rfl)) ?_
          refine Gw.val rfl rfl rfl rfl rfl (fun us => val_move rfl rfl) ?_
          refine Gw.val rfl rfl rfl rfl rfl (fun us => val_move rfl rfl) ?_
          obtain ⟨x74, hx74⟩ := get_of_lt (xs := M.set iq yjq) (k := iq) (by first | omega | (simp; omega))
          refine Gw.val rfl rfl rfl rfl rfl (fun us => match us with | [] => val_ixa rfl Try.underlying22 Try.ty28 rfl rfl (j := iq) (rfl) (reach_own (k := 0) rfl hxiq) | u1 :: _ => val_ixa rfl Try.underlying22 Try.ty28 rfl rfl (j := iq) (rfl) (reach_own (k := 0) rfl hx74)) ?_
          refine Gw.val0 rfl rfl rfl (by kernel_rfl) rfl rfl (val_load rfl Try.ty28 rfl rfl (cell_own (i := 0) (k := 0) rfl hxiq rfl)) ?_
          refine Gw.val0 rfl rfl rfl (by kernel_rfl) rfl rfl (val_ixa rfl Try.underlying22 Try.ty28 rfl rfl (j := iq) (rfl) (reach_own (k := 0) rfl hxiq)) ?_
          refine Gw.chg0 rfl rfl rfl rfl (Eff.mono (eff_storeElA yjq rfl Try.ty28 rfl rfl rfl FU_one (k := 0) rfl FU_len hxiq (l' := [Hp.own FU 1 v (M.set iq yjq), R]) rfl) (fun _ _ h => congrArg sep h)) (fun _ => ?_)
          obtain ⟨x75, hx75⟩ := get_of_lt (xs := M.set iq yjq) (k := jq) (by first | omega | (simp; omega))
          refine Gw.val0 rfl rfl rfl (by kernel_rfl) rfl rfl (val_ixa rfl Try.underlying22 Try.ty28 rfl rfl (j := jq) (rfl) (reach_own (k := 0) rfl hx75)) ?_
          refine Gw.done ?_
          refine Gx.norm (l' := [Hp.own FU 1 v (M.set iq yjq), R]) rfl ?_
          refine Gx.eff0 rfl rfl (eff_storeElA xiq rfl Try.ty28 rfl rfl rfl FU_one (k := 0) rfl FU_len hx75 (l' := [Hp.own FU 1 v ((M.set iq yjq).set jq xiq), R]) rfl) ?_
          rintro _ _ rfl
          refine Gx.done ?_
          refine Gx.thenN ?_
          refine Gx.seq ?_
          refine Gx.region ?_
          refine Gx.val rfl rfl rfl (val_move rfl rfl) ?_
          refine Gx.val rfl rfl rfl (val_add rfl rfl rfl (r := ((iq + 1 : Nat) : Int)) (w64 (by omega) (by omega))) ?_
          refine Gx.val rfl rfl rfl (val_assign rfl rfl) ?_
          refine Gx.done ?_
          refine Gx.thenN ?_
          refine Gx.seq ?_
          refine Gx.region ?_
          refine Gx.val rfl rfl rfl (val_move rfl rfl) ?_
          refine Gx.val rfl rfl rfl (val_sub rfl rfl rfl (r := ((jq - 1 : Nat) : Int)) (w64 (by omega) (by omega))) ?_
          refine Gx.val rfl rfl rfl (val_assign rfl rfl) ?_
          refine Gx.done ?_
          refine Gx.thenN ?_
          refine Gx.seq ?_
          refine Gx.block ?_
          refine Gx.loop (ι := Nat × Nat × (List Nat)) (fun ξ => (a + 1 ≤ ξ.1) ∧ (ξ.1 ≤ ξ.2.1 + 1) ∧ (ξ.2.1 + 1 ≤ b) ∧ (Sh a b xs ξ.2.2) ∧ (ξ.2.2[a]? = some pv) ∧ (All (fun z => z < pv) (a + 1) ξ.1 ξ.2.2) ∧ (All (fun z => ¬ z < pv) (ξ.2.1 + 1) b ξ.2.2)) (fun ξ => [(0, v), (1, .int .i64 ((a : Nat) : Int)), (10, .int .i64 ((ξ.1 : Nat) : Int)), (11, .int .i64 ((ξ.2.1 : Nat) : Int))]) (fun ξ => [Hp.own FU 1 v ξ.2.2, R]) (fun ξ => ξ.2.1 + 1 - ξ.1) (iq + 1, jq - 1, (M.set iq yjq).set jq xiq) ⟨by first | omega | (dsimp only; omega), by first | omega | (dsimp only; omega), by first | omega | (dsimp only; omega), Sh.swap hsh (by omega) (by omega) (by omega) (by omega) hxiq hyjq, part_keep hpv hxiq hyjq (by omega) (by omega), part_lo hloiq hxiq hyjq (by first | omega | (exfalso; omega) | (dsimp only; omega)) hlt, part_hi hhijq hxiq hyjq (by first | omega | (exfalso; omega) | (dsimp only; omega)) hlt⟩ ((.cons rfl (.cons rfl (.cons rfl (.cons rfl .nil))))) rfl ?_
          rintro ⟨k, l, M2⟩ ⟨hai, hij, hjb, hsh2, hpv2, hlo, hhi⟩
          dsimp only at hai hij hjb hsh2 hpv2 hlo hhi
          refine Gx.know (m' := [(0, v), (1, .int .i64 ((a : Nat) : Int)), (10, .int .i64 ((k : Nat) : Int)), (11, .int .i64 ((l : Nat) : Int))]) (.cons rfl (.cons rfl (.cons rfl (.cons rfl .nil)))) (Gx.norm (l' := [Hp.own FU 1 v M2, R]) rfl ?_)
          have hM2 := hsh2.len
          refine Gx.block ?_
          refine Gx.seq ?_
          refine Gx.block ?_
          refine Gx.loop (ι := Nat) (fun ξ => (a + 1 ≤ ξ) ∧ (ξ ≤ l + 1) ∧ (k ≤ ξ) ∧ (All (fun z => z < pv) (a + 1) ξ M2)) (fun ξ => [(0, v), (1, .int .i64 ((a : Nat) : Int)), (10, .int .i64 ((ξ : Nat) : Int)), (11, .int .i64 ((l : Nat) : Int))]) (fun ξ => [Hp.own FU 1 v M2, R]) (fun ξ => l + 1 - ξ) k ⟨by first | omega | (dsimp only; omega), by first | omega | (dsimp only; omega), by first | omega | (dsimp only; omega), hlo⟩ ((.cons rfl (.cons rfl (.cons rfl (.cons rfl .nil))))) rfl ?_
          rintro kq ⟨haikq, hijkq, hiikq, hlokq⟩
          refine Gx.know (m' := [(0, v), (1, .int .i64 ((a : Nat) : Int)), (10, .int .i64 ((kq : Nat) : Int)), (11, .int .i64 ((l : Nat) : Int))]) (.cons rfl (.cons rfl (.cons rfl (.cons rfl .nil)))) (Gx.norm (l' := [Hp.own FU 1 v M2, R]) rfl ?_)
          refine Gx.seq ?_
          refine Gx.seq ?_
          refine Gx.regionQ Try.mixed (by kernel_rfl) ?_
          refine Gq.val rfl rfl rfl (val_move rfl rfl) ?_
          refine Gq.val rfl rfl rfl (val_move rfl rfl) ?_
          refine Gq.val rfl rfl rfl (val_leq rfl rfl rfl) ?_
          refine Gq.val rfl rfl rfl (val_move rfl rfl) ?_
          refine Gq.cases (t := 102) rfl (fun h76 => ?_) (fun h76 => ?_)
          · obtain ⟨xkq, hxkq⟩ := get_of_lt (xs := M2) (k := kq) (by omega)
            refine Gq.valg rfl rfl rfl rfl rfl (val_move rfl rfl) ?_
            refine Gq.valg rfl rfl rfl rfl rfl (val_move rfl rfl) ?_
            refine Gq.valg rfl rfl rfl rfl rfl (val_ixa rfl Try.underlying22 Try.ty28 rfl rfl (j := kq) (rfl) (reach_own (k := 0) rfl hxkq)) ?_
            refine Gq.valg rfl rfl rfl rfl rfl (val_load rfl Try.ty28 rfl rfl (cell_own (i := 0) (k := 0) rfl hxkq rfl)) ?_
            refine Gq.valg rfl rfl rfl rfl rfl (val_move rfl rfl) ?_
            refine Gq.valg rfl rfl rfl rfl rfl (val_move rfl rfl) ?_
            refine Gq.valg rfl rfl rfl rfl rfl (val_ixa rfl Try.underlying22 Try.ty28 rfl rfl (j := a) (rfl) (reach_own (k := 0) rfl hpv2)) ?_
            refine Gq.valg rfl rfl rfl rfl rfl (val_load rfl Try.ty28 rfl rfl (cell_own (i := 0) (k := 0) rfl hpv2 rfl)) ?_
            refine Gq.valg rfl rfl rfl rfl rfl (val_call (vs := [.int .u32 ((xkq : Nat) : Int), .int .u32 ((pv : Nat) : Int)]) rfl Try.fn47 rfl (fun w H => less_any xkq pv)) ?_
            refine Gq.val rfl rfl rfl (val_pickT rfl rfl rfl) ?_
            refine Gq.done ?_
            refine Gx.thenN ?_
            refine Gx.dec rfl (fun h77 => ?_) (fun h77 => ?_)
            · refine Gx.skip ?_
              refine Gx.thenN ?_
              refine Gx.block ?_
              refine Gx.region ?_
              refine Gx.val rfl rfl rfl (val_move rfl rfl) ?_
              refine Gx.val rfl rfl rfl (val_add rfl rfl rfl (r := ((kq + 1 : Nat) : Int)) (w64 (by omega) (by omega))) ?_
              refine Gx.val rfl rfl rfl (val_assign rfl rfl) ?_
              refine Gx.done ?_
              refine Gx.blkN ?_
              refine Gx.thenN ?_
              exact Gx.round (kq + 1) ⟨by first | omega | (dsimp only; omega), by first | omega | (dsimp only; omega), by first | omega | (dsimp only; omega), hlokq.snoc hxkq (by first | omega | (dsimp only; omega))⟩ (by first | omega | (dsimp only; omega)) ((.cons rfl (.cons rfl (.cons rfl (.cons rfl .nil))))) rfl
            · refine Gx.exit ?_
              refine Gx.thenE ?_
              refine Gx.thenE ?_
              refine Gx.blkE ?_
              refine Gx.thenN ?_
              refine Gx.seq ?_
              refine Gx.block ?_
              refine Gx.loop (ι := Nat) (fun ξ => (ξ + 1 ≤ b) ∧ (kq ≤ ξ + 1) ∧ (ξ ≤ l) ∧ (All (fun z => ¬ z < pv) (ξ + 1) b M2)) (fun ξ => [(0, v), (1, .int .i64 ((a : Nat) : Int)), (10, .int .i64 ((kq : Nat) : Int)), (11, .int .i64 ((ξ : Nat) : Int))]) (fun ξ => [Hp.own FU 1 v M2, R]) (fun ξ => ξ) l ⟨by first | omega | (dsimp only; omega), by first | omega | (dsimp only; omega), by first | omega | (dsimp only; omega), hhi⟩ ((.cons rfl (.cons rfl (.cons rfl (.cons rfl .nil))))) rfl ?_
              rintro lq ⟨hjblq, hijlq, hjjlq, hhilq⟩
              refine Gx.know (m' := [(0, v), (1, .int .i64 ((a : Nat) : Int)), (10, .int .i64 ((kq : Nat) : Int)), (11, .int .i64 ((lq : Nat) : Int))]) (.cons rfl (.cons rfl (.cons rfl (.cons rfl .nil)))) (Gx.norm (l' := [Hp.own FU 1 v M2, R]) rfl ?_)
              refine Gx.seq ?_
              refine Gx.seq ?_
              refine Gx.regionQ Try.mixed (by kernel_rfl) ?_
              refine Gq.val rfl rfl rfl (val_move rfl rfl) ?_
              refine Gq.val rfl rfl rfl (val_move rfl rfl) ?_
              refine Gq.val rfl rfl rfl (val_leq rfl rfl rfl) ?_
              refine Gq.val rfl rfl rfl (val_move rfl rfl) ?_
              refine Gq.cases (t := 118) rfl (fun h78 => ?_) (fun h78 => ?_)
              · obtain ⟨ylq, hylq⟩ := get_of_lt (xs := M2) (k := lq) (by omega)
                refine Gq.valg rfl rfl rfl rfl rfl (val_move rfl rfl) ?_
                refine Gq.valg rfl rfl rfl rfl rfl (val_move rfl rfl) ?_
                refine Gq.valg rfl rfl rfl rfl rfl (val_ixa rfl Try.underlying22 Try.ty28 rfl rfl (j := lq) (rfl) (reach_own (k := 0) rfl hylq)) ?_
                refine Gq.valg rfl rfl rfl rfl rfl (val_load rfl Try.ty28 rfl rfl (cell_own (i := 0) (k := 0) rfl hylq rfl)) ?_
                refine Gq.valg rfl rfl rfl rfl rfl (val_move rfl rfl) ?_
                refine Gq.valg rfl rfl rfl rfl rfl (val_move rfl rfl) ?_
                refine Gq.valg rfl rfl rfl rfl rfl (val_ixa rfl Try.underlying22 Try.ty28 rfl rfl (j := a) (rfl) (reach_own (k := 0) rfl hpv2)) ?_
                refine Gq.valg rfl rfl rfl rfl rfl (val_load rfl Try.ty28 rfl rfl (cell_own (i := 0) (k := 0) rfl hpv2 rfl)) ?_
                refine Gq.valg rfl rfl rfl rfl rfl (val_call (vs := [.int .u32 ((ylq : Nat) : Int), .int .u32 ((pv : Nat) : Int)]) rfl Try.fn47 rfl (fun w H => less_any ylq pv)) ?_
                refine Gq.valg rfl rfl rfl rfl rfl (val_notD rfl rfl) ?_
                refine Gq.val rfl rfl rfl (val_pickT rfl rfl rfl) ?_
                refine Gq.done ?_
                refine Gx.thenN ?_
                refine Gx.dec rfl (fun h79 => ?_) (fun h79 => ?_)
                · refine Gx.skip ?_
                  refine Gx.thenN ?_
                  refine Gx.block ?_
                  refine Gx.region ?_
                  refine Gx.val rfl rfl rfl (val_move rfl rfl) ?_
                  refine Gx.val rfl rfl rfl (val_sub rfl rfl rfl (r := ((lq - 1 : Nat) : Int)) (w64 (by omega) (by omega))) ?_
                  refine Gx.val rfl rfl rfl (val_assign rfl rfl) ?_
                  refine Gx.done ?_
                  refine Gx.blkN ?_
                  refine Gx.thenN ?_
                  exact Gx.round (lq - 1) ⟨by first | omega | (dsimp only; omega), by first | omega | (dsimp only; omega), by first | omega | (dsimp only; omega), hhilq.cons hylq (by first | omega | (dsimp only; omega)) (by omega)⟩ (by first | omega | (dsimp only; omega)) ((.cons rfl (.cons rfl (.cons rfl (.cons rfl .nil))))) rfl
                · refine Gx.exit ?_
                  refine Gx.thenE ?_
                  refine Gx.thenE ?_
                  refine Gx.blkE ?_
                  refine Gx.thenN ?_
                  refine Gx.seq ?_
                  refine Gx.seq ?_
                  refine Gx.region ?_
                  refine Gx.val rfl rfl rfl (val_move rfl rfl) ?_
                  refine Gx.val rfl rfl rfl (val_move rfl rfl) ?_
                  refine Gx.val rfl rfl rfl (val_gtr rfl rfl rfl) ?_
                  refine Gx.done ?_
                  refine Gx.thenN ?_
                  refine Gx.dec rfl (fun h80 => ?_) (fun h80 => ?_)
                  · refine Gx.exit ?_
                    refine Gx.thenE ?_
                    refine Gx.blkO rfl ?_
                    refine Gx.thenE ?_
                    refine Gx.blkE ?_
                    refine Gx.thenN ?_
                    refine Gx.seq ?_
                    obtain ⟨e1, e2, e3⟩ := part_end (fun k z h0 h1 => hlokq k z h0 (by omega)) hhilq hylq hpv2 (by omega)
                    have hshe := Sh.swap hsh2 (by omega) (by omega) (by omega) (by omega) hylq hpv2
                    refine Gx.regionO (fun j => j == 13) 15 [0, 1, 2, 3, 4, 5, 6, 7, 8, 9, 10, 11, 12, 13, 14] (fun us => match us with | [] => [Hp.own FU 1 v M2, R] | u1 :: _ => [Hp.own FU 1 v (M2.set lq pv), R]) Try.mixed (by kernel_rfl) rfl ?_
                    refine Gw.val rfl rfl rfl rfl rfl (fun us => val_move rfl rfl) ?_
                    refine Gw.val rfl rfl rfl rfl rfl (fun us => val_move rfl rfl) ?_
                    refine Gw.val rfl rfl rfl rfl rfl (fun us => val_move rfl rfl) ?_
                    refine Gw.val rfl rfl rfl rfl rfl (fun us => val_move rfl rfl) ?_
                    refine Gw.val rfl rfl rfl rfl rfl (fun us => val_move rfl rfl) ?_
                    refine Gw.val rfl rfl rfl rfl rfl (fun us => val_move rfl rfl) ?_
                    refine Gw.val0 rfl rfl rfl (by kernel_rfl) rfl rfl (val_ixa rfl Try.underlying22 Try.ty28 rfl rfl (j := a) (rfl) (reach_own (k := 0) rfl hpv2)) ?_
                    refine Gw.val0 rfl rfl rfl (by kernel_rfl) rfl rfl (val_load rfl Try.ty28 rfl rfl (cell_own (i := 0) (k := 0) rfl hpv2 rfl)) ?_
                    refine Gw.val rfl rfl rfl rfl rfl (fun us => val_move rfl rfl) ?_
                    refine Gw.val rfl rfl rfl rfl rfl (fun us => val_move rfl rfl) ?_
                    obtain ⟨x81, hx81⟩ := get_of_lt (xs := M2.set lq pv) (k := lq) (by first | omega | (simp; omega))
                    refine Gw.val rfl rfl rfl rfl rfl (fun us => match us with | [] => val_ixa rfl Try.underlying22 Try.ty28 rfl rfl (j := lq) (rfl) (reach_own (k := 0) rfl hylq) | u1 :: _ => val_ixa rfl Try.underlying22 Try.ty28 rfl rfl (j := lq) (rfl) (reach_own (k := 0) rfl hx81)) ?_
                    refine Gw.val0 rfl rfl rfl (by kernel_rfl) rfl rfl (val_load rfl Try.ty28 rfl rfl (cell_own (i := 0) (k := 0) rfl hylq rfl)) ?_
                    refine Gw.val0 rfl rfl rfl (by kernel_rfl) rfl rfl (val_ixa rfl Try.underlying22 Try.ty28 rfl rfl (j := lq) (rfl) (reach_own (k := 0) rfl hylq)) ?_
                    refine Gw.chg0 rfl rfl rfl rfl (Eff.mono (eff_storeElA pv rfl Try.ty28 rfl rfl rfl FU_one (k := 0) rfl FU_len hylq (l' := [Hp.own FU 1 v (M2.set lq pv), R]) rfl) (fun _ _ h => congrArg sep h)) (fun _ => ?_)
                    obtain ⟨x82, hx82⟩ := get_of_lt (xs := M2.set lq pv) (k := a) (by first | omega | (simp; omega))
                    refine Gw.val0 rfl rfl rfl (by kernel_rfl) rfl rfl (val_ixa rfl Try.underlying22 Try.ty28 rfl rfl (j := a) (rfl) (reach_own (k := 0) rfl hx82)) ?_
                    refine Gw.done ?_
                    refine Gx.norm (l' := [Hp.own FU 1 v (M2.set lq pv), R]) rfl ?_
                    refine Gx.eff0 rfl rfl (eff_storeElA ylq rfl Try.ty28 rfl rfl rfl FU_one (k := 0) rfl FU_len hx82 (l' := [Hp.own FU 1 v ((M2.set lq pv).set a ylq), R]) rfl) ?_
                    rintro _ _ rfl
                    refine Gx.done ?_
                    refine Gx.thenN ?_
                    refine Gx.seq ?_
                    refine Gx.region ?_
                    refine Gx.val rfl rfl rfl (val_move rfl rfl) ?_
                    refine Gx.val rfl rfl rfl (val_assign rfl rfl) ?_
                    refine Gx.val rfl rfl rfl (val_assign rfl rfl) ?_
                    refine Gx.done ?_
                    refine Gx.thenN ?_
                    refine Gx.ret ?_
                    refine Gx.ret2 Try.results49 rfl rfl ?_
                    exact ⟨_, _, _, hshe, by omega, by omega, e1, e2, fun k z h0 h1 hz => Nat.not_lt.1 (e3 k z h0 h1 hz), rfl, sep1 _ _⟩
                  · refine Gx.skip ?_
                    refine Gx.thenN ?_
                    refine Gx.seq ?_
                    have hlt : kq < lq := by first | (exfalso; omega) | exact part_lt (P := (fun z => z < pv)) (Q := (fun z => ¬ z < pv)) hxkq hylq (by first | omega | (dsimp only; omega)) (by first | omega | (dsimp only; omega)) (fun z h => by first | omega | (dsimp only at *; omega)) (by omega)
                    refine Gx.regionO (fun j => j == 13) 15 [0, 1, 2, 3, 4, 5, 6, 7, 8, 9, 10, 11, 12, 13, 14] (fun us => match us with | [] => [Hp.own FU 1 v M2, R] | u1 :: _ => [Hp.own FU 1 v (M2.set kq ylq), R]) Try.mixed (by kernel_rfl) rfl ?_
                    refine Gw.val rfl rfl rfl rfl rfl (fun us => val_move rfl rfl) ?_
                    refine Gw.val rfl rfl rfl rfl rfl (fun us => val_move rfl rfl) ?_
                    refine Gw.val rfl rfl rfl rfl rfl (fun us => val_move rfl rfl) ?_
                    refine Gw.val rfl rfl rfl rfl rfl (fun us => val_move rfl rfl) ?_
                    refine Gw.val rfl rfl rfl rfl rfl (fun us => val_move rfl rfl) ?_
                    refine Gw.val rfl rfl rfl rfl rfl (fun us => val_move rfl rfl) ?_
                    refine Gw.val0 rfl rfl rfl (by kernel_rfl) rfl rfl (val_ixa rfl Try.underlying22 Try.ty28 rfl rfl (j := lq) (rfl) (reach_own (k := 0) rfl hylq)) ?_
                    refine Gw.val0 rfl rfl rfl (by kernel_rfl) rfl rfl (val_load rfl Try.ty28 rfl rfl (cell_own (i := 0) (k := 0) rfl hylq rfl)) ?_
                    refine Gw.val rfl rfl rfl rfl rfl (fun us => val_move rfl rfl) ?_
                    refine Gw.val rfl rfl rfl rfl rfl (fun us => val_move rfl rfl) ?_
                    obtain ⟨x83, hx83⟩ := get_of_lt (xs := M2.set kq ylq) (k := kq) (by first | omega | (simp; omega))
                    refine Gw.val rfl rfl rfl rfl rfl (fun us => match us with | [] => val_ixa rfl Try.underlying22 Try.ty28 rfl rfl (j := kq) (rfl) (reach_own (k := 0) rfl hxkq) | u1 :: _ => val_ixa rfl Try.underlying22 Try.ty28 rfl rfl (j := kq) (rfl) (reach_own (k := 0) rfl hx83)) ?_
                    refine Gw.val0 rfl rfl rfl (by kernel_rfl) rfl rfl (val_load rfl Try.ty28 rfl rfl (cell_own (i := 0) (k := 0) rfl hxkq rfl)) ?_
                    refine Gw.val0 rfl rfl rfl (by kernel_rfl) rfl rfl (val_ixa rfl Try.underlying22 Try.ty28 rfl rfl (j := kq) (rfl) (reach_own (k := 0) rfl hxkq)) ?_
                    refine Gw.chg0 rfl rfl rfl rfl (Eff.mono (eff_storeElA ylq rfl Try.ty28 rfl rfl rfl FU_one (k := 0) rfl FU_len hxkq (l' := [Hp.own FU 1 v (M2.set kq ylq), R]) rfl) (fun _ _ h => congrArg sep h)) (fun _ => ?_)
                    obtain ⟨x84, hx84⟩ := get_of_lt (xs := M2.set kq ylq) (k := lq) (by first | omega | (simp; omega))
                    refine Gw.val0 rfl rfl rfl (by kernel_rfl) rfl rfl (val_ixa rfl Try.underlying22 Try.ty28 rfl rfl (j := lq) (rfl) (reach_own (k := 0) rfl hx84)) ?_
                    refine Gw.done ?_
                    refine Gx.norm (l' := [Hp.own FU 1 v (M2.set kq ylq), R]) rfl ?_
                    refine Gx.eff0 rfl rfl (eff_storeElA xkq rfl Try.ty28 rfl rfl rfl FU_one (k := 0) rfl FU_len hx84 (l' := [Hp.own FU 1 v ((M2.set kq ylq).set lq xkq), R]) rfl) ?_
                    rintro _ _ rfl
                    refine Gx.done ?_
                    refine Gx.thenN ?_
                    refine Gx.seq ?_
                    refine Gx.region ?_
                    refine Gx.val rfl rfl rfl (val_move rfl rfl) ?_
                    refine Gx.val rfl rfl rfl (val_add rfl rfl rfl (r := ((kq + 1 : Nat) : Int)) (w64 (by omega) (by omega))) ?_
                    refine Gx.val rfl rfl rfl (val_assign rfl rfl) ?_
                    refine Gx.done ?_
                    refine Gx.thenN ?_
                    refine Gx.region ?_
                    refine Gx.val rfl rfl rfl (val_move rfl rfl) ?_
                    refine Gx.val rfl rfl rfl (val_sub rfl rfl rfl (r := ((lq - 1 : Nat) : Int)) (w64 (by omega) (by omega))) ?_
                    refine Gx.val rfl rfl rfl (val_assign rfl rfl) ?_
                    refine Gx.done ?_
                    refine Gx.blkN ?_
                    refine Gx.thenN ?_
                    exact Gx.round (kq + 1, lq - 1, (M2.set kq ylq).set lq xkq) ⟨by first | omega | (dsimp only; omega), by first | omega | (dsimp only; omega), by first | omega | (dsimp only; omega), Sh.swap hsh2 (by omega) (by omega) (by omega) (by omega) hxkq hylq, part_keep hpv2 hxkq hylq (by omega) (by omega), part_lo hlokq hxkq hylq (by first | omega | (exfalso; omega) | (dsimp only; omega)) hlt, part_hi hhilq hxkq hylq (by first | omega | (exfalso; omega) | (dsimp only; omega)) hlt⟩ (by first | omega | (dsimp only; omega)) ((.cons rfl (.cons rfl (.cons rfl (.cons rfl .nil))))) rfl
              · refine Gq.skipg rfl rfl rfl rfl rfl rfl ?_
                refine Gq.skipg rfl rfl rfl rfl rfl rfl ?_
                refine Gq.skipg rfl rfl rfl rfl rfl rfl ?_
                refine Gq.skipg rfl rfl rfl rfl rfl rfl ?_
                refine Gq.skipg rfl rfl rfl rfl rfl rfl ?_
                refine Gq.skipg rfl rfl rfl rfl rfl rfl ?_
                refine Gq.skipg rfl rfl rfl rfl rfl rfl ?_
                refine Gq.skipg rfl rfl rfl rfl rfl rfl ?_
                refine Gq.skipg rfl rfl rfl rfl rfl rfl ?_
                refine Gq.skipg rfl rfl rfl rfl rfl rfl ?_
                refine Gq.val rfl rfl rfl (val_pickF rfl rfl rfl) ?_
                refine Gq.done ?_
                refine Gx.thenN ?_
                refine Gx.f rfl ?_
                refine Gx.exit ?_
                refine Gx.thenE ?_
                refine Gx.thenE ?_
                refine Gx.blkE ?_
                refine Gx.thenN ?_
                refine Gx.seq ?_
                refine Gx.seq ?_
                refine Gx.region ?_
                refine Gx.val rfl rfl rfl (val_move rfl rfl) ?_
                refine Gx.val rfl rfl rfl (val_move rfl rfl) ?_
                refine Gx.val rfl rfl rfl (val_gtr rfl rfl rfl) ?_
                refine Gx.done ?_
                refine Gx.thenN ?_
                refine Gx.dec rfl (fun h85 => ?_) (fun h85 => ?_)
                · refine Gx.exit ?_
                  refine Gx.thenE ?_
                  refine Gx.blkO rfl ?_
                  refine Gx.thenE ?_
                  refine Gx.blkE ?_
                  refine Gx.thenN ?_
                  refine Gx.seq ?_
                  obtain ⟨ylq, hylq⟩ := get_of_lt (xs := M2) (k := lq) (by omega)
                  obtain ⟨e1, e2, e3⟩ := part_end (fun k z h0 h1 => hlokq k z h0 (by omega)) hhilq hylq hpv2 (by omega)
                  have hshe := Sh.swap hsh2 (by omega) (by omega) (by omega) (by omega) hylq hpv2
                  refine Gx.regionO (fun j => j == 13) 15 [0, 1, 2, 3, 4, 5, 6, 7, 8, 9, 10, 11, 12, 13, 14] (fun us => match us with | [] => [Hp.own FU 1 v M2, R] | u1 :: _ => [Hp.own FU 1 v (M2.set lq pv), R]) Try.mixed (by kernel_rfl) rfl ?_
                  refine Gw.val rfl rfl rfl rfl rfl (fun us => val_move rfl rfl) ?_
                  refine Gw.val rfl rfl rfl rfl rfl (fun us => val_move rfl rfl) ?_
                  refine Gw.val rfl rfl rfl rfl rfl (fun us => val_move rfl rfl) ?_
                  refine Gw.val rfl rfl rfl rfl rfl (fun us => val_move rfl rfl) ?_
                  refine Gw.val rfl rfl rfl rfl rfl (fun us => val_move rfl rfl) ?_
                  refine Gw.val rfl rfl rfl rfl rfl (fun us => val_move rfl rfl) ?_
                  refine Gw.val0 rfl rfl rfl (by kernel_rfl) rfl rfl (val_ixa rfl Try.underlying22 Try.ty28 rfl rfl (j := a) (rfl) (reach_own (k := 0) rfl hpv2)) ?_
                  refine Gw.val0 rfl rfl rfl (by kernel_rfl) rfl rfl (val_load rfl Try.ty28 rfl rfl (cell_own (i := 0) (k := 0) rfl hpv2 rfl)) ?_
                  refine Gw.val rfl rfl rfl rfl rfl (fun us => val_move rfl rfl) ?_
                  refine Gw.val rfl rfl rfl rfl rfl (fun us => val_move rfl rfl) ?_
                  obtain ⟨x86, hx86⟩ := get_of_lt (xs := M2.set lq pv) (k := lq) (by first | omega | (simp; omega))
                  refine Gw.val rfl rfl rfl rfl rfl (fun us => match us with | [] => val_ixa rfl Try.underlying22 Try.ty28 rfl rfl (j := lq) (rfl) (reach_own (k := 0) rfl hylq) | u1 :: _ => val_ixa rfl Try.underlying22 Try.ty28 rfl rfl (j := lq) (rfl) (reach_own (k := 0) rfl hx86)) ?_
                  refine Gw.val0 rfl rfl rfl (by kernel_rfl) rfl rfl (val_load rfl Try.ty28 rfl rfl (cell_own (i := 0) (k := 0) rfl hylq rfl)) ?_
                  refine Gw.val0 rfl rfl rfl (by kernel_rfl) rfl rfl (val_ixa rfl Try.underlying22 Try.ty28 rfl rfl (j := lq) (rfl) (reach_own (k := 0) rfl hylq)) ?_
                  refine Gw.chg0 rfl rfl rfl rfl (Eff.mono (eff_storeElA pv rfl Try.ty28 rfl rfl rfl FU_one (k := 0) rfl FU_len hylq (l' := [Hp.own FU 1 v (M2.set lq pv), R]) rfl) (fun _ _ h => congrArg sep h)) (fun _ => ?_)
                  obtain ⟨x87, hx87⟩ := get_of_lt (xs := M2.set lq pv) (k := a) (by first | omega | (simp; omega))
                  refine Gw.val0 rfl rfl rfl (by kernel_rfl) rfl rfl (val_ixa rfl Try.underlying22 Try.ty28 rfl rfl (j := a) (rfl) (reach_own (k := 0) rfl hx87)) ?_
                  refine Gw.done ?_
                  refine Gx.norm (l' := [Hp.own FU 1 v (M2.set lq pv), R]) rfl ?_
                  refine Gx.eff0 rfl rfl (eff_storeElA ylq rfl Try.ty28 rfl rfl rfl FU_one (k := 0) rfl FU_len hx87 (l' := [Hp.own FU 1 v ((M2.set lq pv).set a ylq), R]) rfl) ?_
                  rintro _ _ rfl
                  refine Gx.done ?_
                  refine Gx.thenN ?_
                  refine Gx.seq ?_
                  refine Gx.region ?_
                  refine Gx.val rfl rfl rfl (val_move rfl rfl) ?_
                  refine Gx.val rfl rfl rfl (val_assign rfl rfl) ?_
                  refine Gx.val rfl rfl rfl (val_assign rfl rfl) ?_
                  refine Gx.done ?_
                  refine Gx.thenN ?_
                  refine Gx.ret ?_
                  refine Gx.ret2 Try.results49 rfl rfl ?_
                  exact ⟨_, _, _, hshe, by omega, by omega, e1, e2, fun k z h0 h1 hz => Nat.not_lt.1 (e3 k z h0 h1 hz), rfl, sep1 _ _⟩
                · refine Gx.skip ?_
                  refine Gx.thenN ?_
                  refine Gx.seq ?_
                  obtain ⟨ylq, hylq⟩ := get_of_lt (xs := M2) (k := lq) (by omega)
                  have hlt : kq < lq := by first | (exfalso; omega) | exact part_lt (P := (fun z => z < pv)) (Q := (fun z => ¬ z < pv)) hxkq hylq (by first | omega | (dsimp only; omega)) (by first | omega | (dsimp only; omega)) (fun z h => by first | omega | (dsimp only at *; omega)) (by omega)
                  refine Gx.regionO (fun j => j == 13) 15 [0, 1, 2, 3, 4, 5, 6, 7, 8, 9, 10, 11, 12, 13, 14] (fun us => match us with | [] => [Hp.own FU 1 v M2, R] | u1 :: _ => [Hp.own FU 1 v (M2.set kq ylq), R]) Try.mixed (by kernel_rfl) rfl ?_
                  refine Gw.val rfl rfl rfl rfl rfl (fun us => val_move rfl rfl) ?_
                  refine Gw.val rfl rfl rfl rfl rfl (fun us => val_move rfl rfl) ?_
                  refine Gw.val rfl rfl rfl rfl rfl (fun us => val_move rfl rfl) ?_
                  refine Gw.val rfl rfl rfl rfl rfl (fun us => val_move rfl rfl) ?_
                  refine Gw.val rfl rfl rfl rfl rfl (fun us => val_move rfl rfl) ?_
                  refine Gw.val rfl rfl rfl rfl rfl (fun us => val_move rfl rfl) ?_
                  refine Gw.val0 rfl rfl rfl (by kernel_rfl) rfl rfl (val_ixa rfl Try.underlying22 Try.ty28 rfl rfl (j := lq) (rfl) (reach_own (k := 0) rfl hylq)) ?_
                  refine Gw.val0 rfl rfl rfl (by kernel_rfl) rfl rfl (val_load rfl Try.ty28 rfl rfl (cell_own (i := 0) (k := 0) rfl hylq rfl)) ?_
                  refine Gw.val rfl rfl rfl rfl rfl (fun us => val_move rfl rfl) ?_
                  refine Gw.val rfl rfl rfl rfl rfl (fun us => val_move rfl rfl) ?_
                  obtain ⟨x88, hx88⟩ := get_of_lt (xs := M2.set kq ylq) (k := kq) (by first | omega | (simp; omega))
                  refine Gw.val rfl rfl rfl rfl rfl (fun us => match us with | [] => val_ixa rfl Try.underlying22 Try.ty28 rfl rfl (j := kq) (rfl) (reach_own (k := 0) rfl hxkq) | u1 :: _ => val_ixa rfl Try.underlying22 Try.ty28 rfl rfl (j := kq) (rfl) (reach_own (k := 0) rfl hx88)) ?_
                  refine Gw.val0 rfl rfl rfl (by kernel_rfl) rfl rfl (val_load rfl Try.ty28 rfl rfl (cell_own (i := 0) (k := 0) rfl hxkq rfl)) ?_
                  refine Gw.val0 rfl rfl rfl (by kernel_rfl) rfl rfl (val_ixa rfl Try.underlying22 Try.ty28 rfl rfl (j := kq) (rfl) (reach_own (k := 0) rfl hxkq)) ?_
                  refine Gw.chg0 rfl rfl rfl rfl (Eff.mono (eff_storeElA ylq rfl Try.ty28 rfl rfl rfl FU_one (k := 0) rfl FU_len hxkq (l' := [Hp.own FU 1 v (M2.set kq ylq), R]) rfl) (fun _ _ h => congrArg sep h)) (fun _ => ?_)
                  obtain ⟨x89, hx89⟩ := get_of_lt (xs := M2.set kq ylq) (k := lq) (by first | omega | (simp; omega))
                  refine Gw.val0 rfl rfl rfl (by kernel_rfl) rfl rfl (val_ixa rfl Try.underlying22 Try.ty28 rfl rfl (j := lq) (rfl) (reach_own (k := 0) rfl hx89)) ?_
                  refine Gw.done ?_
                  refine Gx.norm (l' := [Hp.own FU 1 v (M2.set kq ylq), R]) rfl ?_
                  refine Gx.eff0 rfl rfl (eff_storeElA xkq rfl Try.ty28 rfl rfl rfl FU_one (k := 0) rfl FU_len hx89 (l' := [Hp.own FU 1 v ((M2.set kq ylq).set lq xkq), R]) rfl) ?_
                  rintro _ _ rfl
                  refine Gx.done ?_
                  refine Gx.thenN ?_
                  refine Gx.seq ?_
                  refine Gx.region ?_
                  refine Gx.val rfl rfl rfl (val_move rfl rfl) ?_
                  refine Gx.val rfl rfl rfl (val_add rfl rfl rfl (r := ((kq + 1 : Nat) : Int)) (w64 (by omega) (by omega))) ?_
                  refine Gx.val rfl rfl rfl (val_assign rfl rfl) ?_
                  refine Gx.done ?_
                  refine Gx.thenN ?_
                  refine Gx.region ?_
                  refine Gx.val rfl rfl rfl (val_move rfl rfl) ?_
                  refine Gx.val rfl rfl rfl (val_sub rfl rfl rfl (r := ((lq - 1 : Nat) : Int)) (w64 (by omega) (by omega))) ?_
                  refine Gx.val rfl rfl rfl (val_assign rfl rfl) ?_
                  refine Gx.done ?_
                  refine Gx.blkN ?_
                  refine Gx.thenN ?_
                  exact Gx.round (kq + 1, lq - 1, (M2.set kq ylq).set lq xkq) ⟨by first | omega | (dsimp only; omega), by first | omega | (dsimp only; omega), by first | omega | (dsimp only; omega), Sh.swap hsh2 (by omega) (by omega) (by omega) (by omega) hxkq hylq, part_keep hpv2 hxkq hylq (by omega) (by omega), part_lo hlokq hxkq hylq (by first | omega | (exfalso; omega) | (dsimp only; omega)) hlt, part_hi hhilq hxkq hylq (by first | omega | (exfalso; omega) | (dsimp only; omega)) hlt⟩ (by first | omega | (dsimp only; omega)) ((.cons rfl (.cons rfl (.cons rfl (.cons rfl .nil))))) rfl
          · refine Gq.skipg rfl rfl rfl rfl rfl rfl ?_
            refine Gq.skipg rfl rfl rfl rfl rfl rfl ?_
            refine Gq.skipg rfl rfl rfl rfl rfl rfl ?_
            refine Gq.skipg rfl rfl rfl rfl rfl rfl ?_
            refine Gq.skipg rfl rfl rfl rfl rfl rfl ?_
            refine Gq.skipg rfl rfl rfl rfl rfl rfl ?_
            refine Gq.skipg rfl rfl rfl rfl rfl rfl ?_
            refine Gq.skipg rfl rfl rfl rfl rfl rfl ?_
            refine Gq.skipg rfl rfl rfl rfl rfl rfl ?_
            refine Gq.val rfl rfl rfl (val_pickF rfl rfl rfl) ?_
            refine Gq.done ?_
            refine Gx.thenN ?_
            refine Gx.f rfl ?_
            refine Gx.exit ?_
            refine Gx.thenE ?_
            refine Gx.thenE ?_
            refine Gx.blkE ?_
            refine Gx.thenN ?_
            refine Gx.seq ?_
            refine Gx.block ?_
            refine Gx.loop (ι := Nat) (fun ξ => (ξ + 1 ≤ b) ∧ (kq ≤ ξ + 1) ∧ (ξ ≤ l) ∧ (All (fun z => ¬ z < pv) (ξ + 1) b M2)) (fun ξ => [(0, v), (1, .int .i64 ((a : Nat) : Int)), (10, .int .i64 ((kq : Nat) : Int)), (11, .int .i64 ((ξ : Nat) : Int))]) (fun ξ => [Hp.own FU 1 v M2, R]) (fun ξ => ξ) l ⟨by first | omega | (dsimp only; omega), by first | omega | (dsimp only; omega), by first | omega | (dsimp only; omega), hhi⟩ ((.cons rfl (.cons rfl (.cons rfl (.cons rfl .nil))))) rfl ?_
            rintro lq ⟨hjblq, hijlq, hjjlq, hhilq⟩
            refine Gx.know (m' := [(0, v), (1, .int .i64 ((a : Nat) : Int)), (10, .int .i64 ((kq : Nat) : Int)), (11, .int .i64 ((lq : Nat) : Int))]) (.cons rfl (.cons rfl (.cons rfl (.cons rfl .nil)))) (Gx.norm (l' := [Hp.own FU 1 v M2, R]) rfl ?_)
            refine Gx.seq ?_
            refine Gx.seq ?_
            refine Gx.regionQ Try.mixed (by kernel_rfl) ?_
            refine Gq.val rfl rfl rfl (val_move rfl rfl) ?_
            refine Gq.val rfl rfl rfl (val_move rfl rfl) ?_
            refine Gq.val rfl rfl rfl (val_leq rfl rfl rfl) ?_
            refine Gq.val rfl rfl rfl (val_move rfl rfl) ?_
            refine Gq.cases (t := 118) rfl (fun h90 => ?_) (fun h90 => ?_)
            · obtain ⟨ylq, hylq⟩ := get_of_lt (xs := M2) (k := lq) (by omega)
              refine Gq.valg rfl rfl rfl rfl rfl (val_move rfl rfl) ?_
              refine Gq.valg rfl rfl rfl rfl rfl (val_move rfl rfl) ?_
              refine Gq.valg rfl rfl rfl rfl rfl (val_ixa rfl Try.underlying22 Try.ty28 rfl rfl (j := lq) (rfl) (reach_own (k := 0) rfl hylq)) ?_
              refine Gq.valg rfl rfl rfl rfl rfl (val_load rfl Try.ty28 rfl rfl (cell_own (i := 0) (k := 0) rfl hylq rfl)) ?_
              refine Gq.valg rfl rfl rfl rfl rfl (val_move rfl rfl) ?_
              refine Gq.valg rfl rfl rfl rfl rfl (val_move rfl rfl) ?_
              refine Gq.valg rfl rfl rfl rfl rfl (val_ixa rfl Try.underlying22 Try.ty28 rfl rfl (j := a) (rfl) (reach_own (k := 0) rfl hpv2)) ?_
              refine Gq.valg rfl rfl rfl rfl rfl (val_load rfl Try.ty28 rfl rfl (cell_own (i := 0) (k := 0) rfl hpv2 rfl)) ?_
              refine Gq.valg rfl rfl rfl rfl rfl (val_call (vs := [.int .u32 ((ylq : Nat) : Int), .int .u32 ((pv : Nat) : Int)]) rfl Try.fn47 rfl (fun w H => less_any ylq pv)) ?_
              refine Gq.valg rfl rfl rfl rfl rfl (val_notD rfl rfl) ?_
              refine Gq.val rfl rfl rfl (val_pickT rfl rfl rfl) ?_
              refine Gq.done ?_
              refine Gx.thenN ?_
              refine Gx.dec rfl (fun h91 => ?_) (fun h91 => ?_)
              · refine Gx.skip ?_
                refine Gx.thenN ?_
                refine Gx.block ?_
                refine Gx.region ?_
                refine Gx.val rfl rfl rfl (val_move rfl rfl) ?_
                refine Gx.val rfl rfl rfl (val_sub rfl rfl rfl (r := ((lq - 1 : Nat) : Int)) (w64 (by omega) (by omega))) ?_
                refine Gx.val rfl rfl rfl (val_assign rfl rfl) ?_
                refine Gx.done ?_
                refine Gx.blkN ?_
                refine Gx.thenN ?_
                exact Gx.round (lq - 1) ⟨by first | omega | (dsimp only; omega), by first | omega | (dsimp only; omega), by first | omega | (dsimp only; omega), hhilq.cons hylq (by first | omega | (dsimp only; omega)) (by omega)⟩ (by first | omega | (dsimp only; omega)) ((.cons rfl (.cons rfl (.cons rfl (.cons rfl .nil))))) rfl
              · refine Gx.exit ?_
                refine Gx.thenE ?_
                refine Gx.thenE ?_
                refine Gx.blkE ?_
                refine Gx.thenN ?_
                refine Gx.seq ?_
                refine Gx.seq ?_
                refine Gx.region ?_
                refine Gx.val rfl rfl rfl (val_move rfl rfl) ?_
                refine Gx.val rfl rfl rfl (val_move rfl rfl) ?_
                refine Gx.val rfl rfl rfl (val_gtr rfl rfl rfl) ?_
                refine Gx.done ?_
                refine Gx.thenN ?_
                refine Gx.dec rfl (fun h92 => ?_) (fun h92 => ?_)
                · refine Gx.exit ?_
                  refine Gx.thenE ?_
                  refine Gx.blkO rfl ?_
                  refine Gx.thenE ?_
                  refine Gx.blkE ?_
                  refine Gx.thenN ?_
                  refine Gx.seq ?_
                  obtain ⟨e1, e2, e3⟩ := part_end (fun k z h0 h1 => hlokq k z h0 (by omega)) hhilq hylq hpv2 (by omega)
                  have hshe := Sh.swap hsh2 (by omega) (by omega) (by omega) (by omega) hylq hpv2
                  refine Gx.regionO (fun j => j == 13) 15 [0, 1, 2, 3, 4, 5, 6, 7, 8, 9, 10, 11, 12, 13, 14] (fun us => match us with | [] => [Hp.own FU 1 v M2, R] | u1 :: _ => [Hp.own FU 1 v (M2.set lq pv), R]) Try.mixed (by kernel_rfl) rfl ?_
                  refine Gw.val rfl rfl rfl rfl rfl (fun us => val_move rfl rfl) ?_
                  refine Gw.val rfl rfl rfl rfl rfl (fun us => val_move rfl rfl) ?_
                  refine Gw.val rfl rfl rfl rfl rfl (fun us => val_move rfl rfl) ?_
                  refine Gw.val rfl rfl rfl rfl rfl (fun us => val_move rfl rfl) ?_
                  refine Gw.val rfl rfl rfl rfl rfl (fun us => val_move rfl rfl) ?_
                  refine Gw.val rfl rfl rfl rfl rfl (fun us => val_move rfl rfl) ?_
                  refine Gw.val0 rfl rfl rfl (by kernel_rfl) rfl rfl (val_ixa rfl Try.underlying22 Try.ty28 rfl rfl (j := a) (rfl) (reach_own (k := 0) rfl hpv2)) ?_
                  refine Gw.val0 rfl rfl rfl (by kernel_rfl) rfl rfl (val_load rfl Try.ty28 rfl rfl (cell_own (i := 0) (k := 0) rfl hpv2 rfl)) ?_
                  refine Gw.val rfl rfl rfl rfl rfl (fun us => val_move rfl rfl) ?_
                  refine Gw.val rfl rfl rfl rfl rfl (fun us => val_move rfl rfl) ?_
                  obtain ⟨x93, hx93⟩ := get_of_lt (xs := M2.set lq pv) (k := lq) (by first | omega | (simp; omega))
                  refine Gw.val rfl rfl rfl rfl rfl (fun us => match us with | [] => val_ixa rfl Try.underlying22 Try.ty28 rfl rfl (j := lq) (rfl) (reach_own (k := 0) rfl hylq) | u1 :: _ => val_ixa rfl Try.underlying22 Try.ty28 rfl rfl (j := lq) (rfl) (reach_own (k := 0) rfl hx93)) ?_
                  refine Gw.val0 rfl rfl rfl (by kernel_rfl) rfl rfl (val_load rfl Try.ty28 rfl rfl (cell_own (i := 0) (k := 0) rfl hylq rfl)) ?_
                  refine Gw.val0 rfl rfl rfl (by kernel_rfl) rfl rfl (val_ixa rfl Try.underlying22 Try.ty28 rfl rfl (j := lq) (rfl) (reach_own (k := 0) rfl hylq)) ?_
                  refine Gw.chg0 rfl rfl rfl rfl (Eff.mono (eff_storeElA pv rfl Try.ty28 rfl rfl rfl FU_one (k := 0) rfl FU_len hylq (l' := [Hp.own FU 1 v (M2.set lq pv), R]) rfl) (fun _ _ h => congrArg sep h)) (fun _ => ?_)
                  obtain ⟨x94, hx94⟩ := get_of_lt (xs := M2.set lq pv) (k := a) (by first | omega | (simp; omega))
                  refine Gw.val0 rfl rfl rfl (by kernel_rfl) rfl rfl (val_ixa rfl Try.underlying22 Try.ty28 rfl rfl (j := a) (rfl) (reach_own (k := 0) rfl hx94)) ?_
                  refine Gw.done ?_
                  refine Gx.norm (l' := [Hp.own FU 1 v (M2.set lq pv), R]) rfl ?_
                  refine Gx.eff0 rfl rfl (eff_storeElA ylq rfl Try.ty28 rfl rfl rfl FU_one (k := 0) rfl FU_len hx94 (l' := [Hp.own FU 1 v ((M2.set lq pv).set a ylq), R]) rfl) ?_
                  rintro _ _ rfl
                  refine Gx.done ?_
                  refine Gx.thenN ?_
                  refine Gx.seq ?_
                  refine Gx.region ?_
                  refine Gx.val rfl rfl rfl (val_move rfl rfl) ?_
                  refine Gx.val rfl rfl rfl (val_assign rfl rfl) ?_
                  refine Gx.val rfl rfl rfl (val_assign rfl rfl) ?_
                  refine Gx.done ?_
                  refine Gx.thenN ?_
                  refine Gx.ret ?_
                  refine Gx.ret2 Try.results49 rfl rfl ?_
                  exact ⟨_, _, _, hshe, by omega, by omega, e1, e2, fun k z h0 h1 hz => Nat.not_lt.1 (e3 k z h0 h1 hz), rfl, sep1 _ _⟩
                · refine Gx.skip ?_
                  refine Gx.thenN ?_
                  refine Gx.seq ?_
                  obtain ⟨xkq, hxkq⟩ := get_of_lt (xs := M2) (k := kq) (by omega)
                  have hlt : kq < lq := by first | (exfalso; omega) | exact part_lt (P := (fun z => z < pv)) (Q := (fun z => ¬ z < pv)) hxkq hylq (by first | omega | (dsimp only; omega)) (by first | omega | (dsimp only; omega)) (fun z h => by first | omega | (dsimp only at *; omega)) (by omega)
                  refine Gx.regionO (fun j => j == 13) 15 [0, 1, 2, 3, 4, 5, 6, 7, 8, 9, 10, 11, 12, 13, 14] (fun us => match us with | [] => [Hp.own FU 1 v M2, R] | u1 :: _ => [Hp.own FU 1 v (M2.set kq ylq), R]) Try.mixed (by kernel_rfl) rfl ?_
                  refine Gw.val rfl rfl rfl rfl rfl (fun us => val_move rfl rfl) ?_
                  refine Gw.val rfl rfl rfl rfl rfl (fun us => val_move rfl rfl) ?_
                  refine Gw.val rfl rfl rfl rfl rfl (fun us => val_move rfl rfl) ?_
                  refine Gw.val rfl rfl rfl rfl rfl (fun us => val_move rfl rfl) ?_
                  refine Gw.val rfl rfl rfl rfl rfl (fun us => val_move rfl rfl) ?_
                  refine Gw.val rfl rfl rfl rfl rfl (fun us => val_move rfl rfl) ?_
                  refine Gw.val0 rfl rfl rfl (by kernel_rfl) rfl rfl (val_ixa rfl Try.underlying22 Try.ty28 rfl rfl (j := lq) (rfl) (reach_own (k := 0) rfl hylq)) ?_
                  refine Gw.val0 rfl rfl rfl (by kernel_rfl) rfl rfl (val_load rfl Try.ty28 rfl rfl (cell_own (i := 0) (k := 0) rfl hylq rfl)) ?_
                  refine Gw.val rfl rfl rfl rfl rfl (fun us => val_move rfl rfl) ?_
                  refine Gw.val rfl rfl rfl rfl rfl (fun us => val_move rfl rfl) ?_
                  obtain ⟨x95, hx95⟩ := get_of_lt (xs := M2.set kq ylq) (k := kq) (by first | omega | (simp; omega))
                  refine Gw.val rfl rfl rfl rfl rfl (fun us => match us with | [] => val_ixa rfl Try.underlying22 Try.ty28 rfl rfl (j := kq) (rfl) (reach_own (k := 0) rfl hxkq) | u1 :: _ => val_ixa rfl Try.underlying22 Try.ty28 rfl rfl (j := kq) (rfl) (reach_own (k := 0) rfl hx95)) ?_
                  refine Gw.val0 rfl rfl rfl (by kernel_rfl) rfl rfl (val_load rfl Try.ty28 rfl rfl (cell_own (i := 0) (k := 0) rfl hxkq rfl)) ?_
                  refine Gw.val0 rfl rfl rfl (by kernel_rfl) rfl rfl (val_ixa rfl Try.underlying22 Try.ty28 rfl rfl (j := kq) (rfl) (reach_own (k := 0) rfl hxkq)) ?_
                  refine Gw.chg0 rfl rfl rfl rfl (Eff.mono (eff_storeElA ylq rfl Try.ty28 rfl rfl rfl FU_one (k := 0) rfl FU_len hxkq (l' := [Hp.own FU 1 v (M2.set kq ylq), R]) rfl) (fun _ _ h => congrArg sep h)) (fun _ => ?_)
                  obtain ⟨x96, hx96⟩ := get_of_lt (xs := M2.set kq ylq) (k := lq) (by first | omega | (simp; omega))
                  refine Gw.val0 rfl rfl rfl (by kernel_rfl) rfl rfl (val_ixa rfl Try.underlying22 Try.ty28 rfl rfl (j := lq) (rfl) (reach_own (k := 0) rfl hx96)) ?_
                  refine Gw.done ?_
                  refine Gx.norm (l' := [Hp.own FU 1 v (M2.set kq ylq), R]) rfl ?_
                  refine Gx.eff0 rfl rfl (eff_storeElA xkq rfl Try.ty28 rfl rfl rfl FU_one (k := 0) rfl FU_len hx96 (l' := [Hp.own FU 1 v ((M2.set kq ylq).set lq xkq), R]) rfl) ?_
                  rintro _ _ rfl
                  refine Gx.done ?_
                  refine Gx.thenN ?_
                  refine Gx.seq ?_
                  refine Gx.region ?_
                  refine Gx.val rfl rfl rfl (val_move rfl rfl) ?_
                  refine Gx.val rfl rfl rfl (val_add rfl rfl rfl (r := ((kq + 1 : Nat) : Int)) (w64 (by omega) (by omega))) ?_
                  refine Gx.val rfl rfl rfl (val_assign rfl rfl) ?_
                  refine Gx.done ?_
                  refine Gx.thenN ?_
                  refine Gx.region ?_
                  refine Gx.val rfl rfl rfl (val_move rfl rfl) ?_
                  refine Gx.val rfl rfl rfl (val_sub rfl rfl rfl (r := ((lq - 1 : Nat) : Int)) (w64 (by omega) (by omega))) ?_
                  refine Gx.val rfl rfl rfl (val_assign rfl rfl) ?_
                  refine Gx.done ?_
                  refine Gx.blkN ?_
                  refine Gx.thenN ?_
                  exact Gx.round (kq + 1, lq - 1, (M2.set kq ylq).set lq xkq) ⟨by first | omega | (dsimp only; omega), by first | omega | (dsimp only; omega), by first | omega | (dsimp only; omega), Sh.swap hsh2 (by omega) (by omega) (by omega) (by omega) hxkq hylq, part_keep hpv2 hxkq hylq (by omega) (by omega), part_lo hlokq hxkq hylq (by first | omega | (exfalso; omega) | (dsimp only; omega)) hlt, part_hi hhilq hxkq hylq (by first | omega | (exfalso; omega) | (dsimp only; omega)) hlt⟩ (by first | omega | (dsimp only; omega)) ((.cons rfl (.cons rfl (.cons rfl (.cons rfl .nil))))) rfl
            · refine Gq.skipg rfl rfl rfl rfl rfl rfl ?_
              refine Gq.skipg rfl rfl rfl rfl rfl rfl ?_
              refine Gq.skipg rfl rfl rfl rfl rfl rfl ?_
              refine Gq.skipg rfl rfl rfl rfl rfl rfl ?_
              refine Gq.skipg rfl rfl rfl rfl rfl rfl ?_
              refine Gq.skipg rfl rfl rfl rfl rfl rfl ?_
              refine Gq.skipg rfl rfl rfl rfl rfl rfl ?_
              refine Gq.skipg rfl rfl rfl rfl rfl rfl ?_
              refine Gq.skipg rfl rfl rfl rfl rfl rfl ?_
              refine Gq.skipg rfl rfl rfl rfl rfl rfl ?_
              refine Gq.val rfl rfl rfl (val_pickF rfl rfl rfl) ?_
              refine Gq.done ?_
              refine Gx.thenN ?_
              refine Gx.f rfl ?_
              refine Gx.exit ?_
              refine Gx.thenE ?_
              refine Gx.thenE ?_
              refine Gx.blkE ?_
              refine Gx.thenN ?_
              refine Gx.seq ?_
              refine Gx.seq ?_
              refine Gx.region ?_
              refine Gx.val rfl rfl rfl (val_move rfl rfl) ?_
              refine Gx.val rfl rfl rfl (val_move rfl rfl) ?_
              refine Gx.val rfl rfl rfl (val_gtr rfl rfl rfl) ?_
              refine Gx.done ?_
              refine Gx.thenN ?_
              refine Gx.dec rfl (fun h97 => ?_) (fun h97 => ?_)
              · refine Gx.exit ?_
                refine Gx.thenE ?_
                refine Gx.blkO rfl ?_
                refine Gx.thenE ?_
                refine Gx.blkE ?_
                refine Gx.thenN ?_
                refine Gx.seq ?_
                obtain ⟨ylq, hylq⟩ := get_of_lt (xs := M2) (k := lq) (by omega)
                obtain ⟨e1, e2, e3⟩ := part_end (fun k z h0 h1 => hlokq k z h0 (by omega)) hhilq hylq hpv2 (by omega)
                have hshe := Sh.swap hsh2 (by omega) (by omega) (by omega) (by omega) hylq hpv2
                refine Gx.regionO (fun j => j == 13) 15 [0, 1, 2, 3, 4, 5, 6, 7, 8, 9, 10, 11, 12, 13, 14] (fun us => match us with | [] => [Hp.own FU 1 v M2, R] | u1 :: _ => [Hp.own FU 1 v (M2.set lq pv), R]) Try.mixed (by kernel_rfl) rfl ?_
                refine Gw.val rfl rfl rfl rfl rfl (fun us => val_move rfl rfl) ?_
                refine Gw.val rfl rfl rfl rfl rfl (fun us => val_move rfl rfl) ?_
                refine Gw.val rfl rfl rfl rfl rfl (fun us => val_move rfl rfl) ?_
                refine Gw.val rfl rfl rfl rfl rfl (fun us => val_move rfl rfl) ?_
                refine Gw.val rfl rfl rfl rfl rfl (fun us => val_move rfl rfl) ?_
                refine Gw.val rfl rfl rfl rfl rfl (fun us => val_move rfl rfl) ?_
                refine Gw.val0 rfl rfl rfl (by kernel_rfl) rfl rfl (val_ixa rfl Try.underlying22 Try.ty28 rfl rfl (j := a) (rfl) (reach_own (k := 0) rfl hpv2)) ?_
                refine Gw.val0 rfl rfl rfl (by kernel_rfl) rfl rfl (val_load rfl Try.ty28 rfl rfl (cell_own (i := 0) (k := 0) rfl hpv2 rfl)) ?_
                refine Gw.val rfl rfl rfl rfl rfl (fun us => val_move rfl rfl) ?_
                refine Gw.val rfl rfl rfl rfl rfl (fun us => val_move rfl rfl) ?_
                obtain ⟨x98, hx98⟩ := get_of_lt (xs := M2.set lq pv) (k := lq) (by first | omega | (simp; omega))
                refine Gw.val rfl rfl rfl rfl rfl (fun us => match us with | [] => val_ixa rfl Try.underlying22 Try.ty28 rfl rfl (j := lq) (rfl) (reach_own (k := 0) rfl hylq) | u1 :: _ => val_ixa rfl Try.underlying22 Try.ty28 rfl rfl (j := lq) (rfl) (reach_own (k := 0) rfl hx98)) ?_
                refine Gw.val0 rfl rfl rfl (by kernel_rfl) rfl rfl (val_load rfl Try.ty28 rfl rfl (cell_own (i := 0) (k := 0) rfl hylq rfl)) ?_
                refine Gw.val0 rfl rfl rfl (by kernel_rfl) rfl rfl (val_ixa rfl Try.underlying22 Try.ty28 rfl rfl (j := lq) (rfl) (reach_own (k := 0) rfl hylq)) ?_
                refine Gw.chg0 rfl rfl rfl rfl (Eff.mono (eff_storeElA pv rfl Try.ty28 rfl rfl rfl FU_one (k := 0) rfl FU_len hylq (l' := [Hp.own FU 1 v (M2.set lq pv), R]) rfl) (fun _ _ h => congrArg sep h)) (fun _ => ?_)
                obtain ⟨x99, hx99⟩ := get_of_lt (xs := M2.set lq pv) (k := a) (by first | omega | (simp; omega))
                refine Gw.val0 rfl rfl rfl (by kernel_rfl) rfl rfl (val_ixa rfl Try.underlying22 Try.ty28 rfl rfl (j := a) (rfl) (reach_own (k := 0) rfl hx99)) ?_
                refine Gw.done ?_
                refine Gx.norm (l' := [Hp.own FU 1 v (M2.set lq pv), R]) rfl ?_
                refine Gx.eff0 rfl rfl (eff_storeElA ylq rfl Try.ty28 rfl rfl rfl FU_one (k := 0) rfl FU_len hx99 (l' := [Hp.own FU 1 v ((M2.set lq pv).set a ylq), R]) rfl) ?_
                rintro _ _ rfl
                refine Gx.done ?_
                refine Gx.thenN ?_
                refine Gx.seq ?_
                refine Gx.region ?_
                refine Gx.val rfl rfl rfl (val_move rfl rfl) ?_
                refine Gx.val rfl rfl rfl (val_assign rfl rfl) ?_
                refine Gx.val rfl rfl rfl (val_assign rfl rfl) ?_
                refine Gx.done ?_
                refine Gx.thenN ?_
                refine Gx.ret ?_
                refine Gx.ret2 Try.results49 rfl rfl ?_
                exact ⟨_, _, _, hshe, by omega, by omega, e1, e2, fun k z h0 h1 hz => Nat.not_lt.1 (e3 k z h0 h1 hz), rfl, sep1 _ _⟩
              · refine Gx.skip ?_
                refine Gx.thenN ?_
                refine Gx.seq ?_
                obtain ⟨xkq, hxkq⟩ := get_of_lt (xs := M2) (k := kq) (by omega)
                obtain ⟨ylq, hylq⟩ := get_of_lt (xs := M2) (k := lq) (by omega)
                have hlt : kq < lq := by first | (exfalso; omega) | exact part_lt (P := (fun z => z < pv)) (Q := (fun z => ¬ z < pv)) hxkq hylq (by first | omega | (dsimp only; omega)) (by first | omega | (dsimp only; omega)) (fun z h => by first | omega | (dsimp only at *; omega)) (by omega)
                refine Gx.regionO (fun j => j == 13) 15 [0, 1, 2, 3, 4, 5, 6, 7, 8, 9, 10, 11, 12, 13, 14] (fun us => match us with | [] => [Hp.own FU 1 v M2, R] | u1 :: _ => [Hp.own FU 1 v (M2.set kq ylq), R]) Try.mixed (by kernel_rfl) rfl ?_
                refine Gw.val rfl rfl rfl rfl rfl (fun us => val_move rfl rfl) ?_
                refine Gw.val rfl rfl rfl rfl rfl (fun us => val_move rfl rfl) ?_
                refine Gw.val rfl rfl rfl rfl rfl (fun us => val_move rfl rfl) ?_
                refine Gw.val rfl rfl rfl rfl rfl (fun us => val_move rfl rfl) ?_
                refine Gw.val rfl rfl rfl rfl rfl (fun us => val_move rfl rfl) ?_
                refine Gw.val rfl rfl rfl rfl rfl (fun us => val_move rfl rfl) ?_
                refine Gw.val0 rfl rfl rfl (by kernel_rfl) rfl rfl (val_ixa rfl Try.underlying22 Try.ty28 rfl rfl (j := lq) (rfl) (reach_own (k := 0) rfl hylq)) ?_
                refine Gw.val0 rfl rfl rfl (by kernel_rfl) rfl rfl (val_load rfl Try.ty28 rfl rfl (cell_own (i := 0) (k := 0) rfl hylq rfl)) ?_
                refine Gw.val rfl rfl rfl rfl rfl (fun us => val_move rfl rfl) ?_
                refine Gw.val rfl rfl rfl rfl rfl (fun us => val_move rfl rfl) ?_
                obtain ⟨x100, hx100⟩ := get_of_lt (xs := M2.set kq ylq) (k := kq) (by first | omega | (simp; omega))
                refine Gw.val rfl rfl rfl rfl rfl (fun us => match us with | [] => val_ixa rfl Try.underlying22 Try.ty28 rfl rfl (j := kq) (rfl) (reach_own (k := 0) rfl hxkq) | u1 :: _ => val_ixa rfl Try.underlying22 Try.ty28 rfl rfl (j := kq) (rfl) (reach_own (k := 0) rfl hx100)) ?_
                refine Gw.val0 rfl rfl rfl (by kernel_rfl) rfl rfl (val_load rfl Try.ty28 rfl rfl (cell_own (i := 0) (k := 0) rfl hxkq rfl)) ?_
                refine Gw.val0 rfl rfl rfl (by kernel_rfl) rfl rfl (val_ixa rfl Try.underlying22 Try.ty28 rfl rfl (j := kq) (rfl) (reach_own (k := 0) rfl hxkq)) ?_
                refine Gw.chg0 rfl rfl rfl rfl (Eff.mono (eff_storeElA ylq rfl Try.ty28 rfl rfl rfl FU_one (k := 0) rfl FU_len hxkq (l' := [Hp.own FU 1 v (M2.set kq ylq), R]) rfl) (fun _ _ h => congrArg sep h)) (fun _ => ?_)
                obtain ⟨x101, hx101⟩ := get_of_lt (xs := M2.set kq ylq) (k := lq) (by first | omega | (simp; omega))
                refine Gw.val0 rfl rfl rfl (by kernel_rfl) rfl rfl (val_ixa rfl Try.underlying22 Try.ty28 rfl rfl (j := lq) (rfl) (reach_own (k := 0) rfl hx101)) ?_
                refine Gw.done ?_
                refine Gx.norm (l' := [Hp.own FU 1 v (M2.set kq ylq), R]) rfl ?_
                refine Gx.eff0 rfl rfl (eff_storeElA xkq rfl Try.ty28 rfl rfl rfl FU_one (k := 0) rfl FU_len hx101 (l' := [Hp.own FU 1 v ((M2.set kq ylq).set lq xkq), R]) rfl) ?_
                rintro _ _ rfl
                refine Gx.done ?_
                refine Gx.thenN ?_
                refine Gx.seq ?_
                refine Gx.region ?_
                refine Gx.val rfl rfl rfl (val_move rfl rfl) ?_
                refine Gx.val rfl rfl rfl (val_add rfl rfl rfl (r := ((kq + 1 : Nat) : Int)) (w64 (by omega) (by omega))) ?_
                refine Gx.val rfl rfl rfl (val_assign rfl rfl) ?_
                refine Gx.done ?_
                refine Gx.thenN ?_
                refine Gx.region ?_
                refine Gx.val rfl rfl rfl (val_move rfl rfl) ?_
                refine Gx.val rfl rfl rfl (val_sub rfl rfl rfl (r := ((lq - 1 : Nat) : Int)) (w64 (by omega) (by omega))) ?_
                refine Gx.val rfl rfl rfl (val_assign rfl rfl) ?_
                refine Gx.done ?_
                refine Gx.blkN ?_
                refine Gx.thenN ?_
                exact Gx.round (kq + 1, lq - 1, (M2.set kq ylq).set lq xkq) ⟨by first | omega | (dsimp only; omega), by first | omega | (dsimp only; omega), by first | omega | (dsimp only; omega), Sh.swap hsh2 (by omega) (by omega) (by omega) (by omega) hxkq hylq, part_keep hpv2 hxkq hylq (by omega) (by omega), part_lo hlokq hxkq hylq (by first | omega | (exfalso; omega) | (dsimp only; omega)) hlt, part_hi hhilq hxkq hylq (by first | omega | (exfalso; omega) | (dsimp only; omega)) hlt⟩ (by first | omega | (dsimp only; omega)) ((.cons rfl (.cons rfl (.cons rfl (.cons rfl .nil))))) rfl
    · refine Gq.skipg rfl rfl rfl rfl rfl rfl ?_
      refine Gq.skipg rfl rfl rfl rfl rfl rfl ?_
      refine Gq.skipg rfl rfl rfl rfl rfl rfl ?_
      refine Gq.skipg rfl rfl rfl rfl rfl rfl ?_
      refine Gq.skipg rfl rfl rfl rfl rfl rfl ?_
      refine Gq.skipg rfl rfl rfl rfl rfl rfl ?_
      refine Gq.skipg rfl rfl rfl rfl rfl rfl ?_
      refine Gq.skipg rfl rfl rfl rfl rfl rfl ?_
      refine Gq.skipg rfl rfl rfl rfl rfl rfl ?_
      refine Gq.skipg rfl rfl rfl rfl rfl rfl ?_
      refine Gq.val rfl rfl rfl (val_pickF rfl rfl rfl) ?_
      refine Gq.done ?_
      refine Gx.thenN ?_
      refine Gx.f rfl ?_
      refine Gx.exit ?_
      refine Gx.thenE ?_
      refine Gx.thenE ?_
      refine Gx.blkE ?_
      refine Gx.thenN ?_
      refine Gx.seq ?_
      refine Gx.seq ?_
      refine Gx.region ?_
      refine Gx.val rfl rfl rfl (val_move rfl rfl) ?_
      refine Gx.val rfl rfl rfl (val_move rfl rfl) ?_
      refine Gx.val rfl rfl rfl (val_gtr rfl rfl rfl) ?_
      refine Gx.done ?_
      refine Gx.thenN ?_
      refine Gx.dec rfl (fun h102 => ?_) (fun h102 => ?_)
      · refine Gx.seq ?_
        obtain ⟨yjq, hyjq⟩ := get_of_lt (xs := M) (k := jq) (by omega)
        obtain ⟨e1, e2, e3⟩ := part_end (fun k z h0 h1 => hloiq k z h0 (by omega)) hhijq hyjq hpv (by omega)
        have hshe := Sh.swap hsh (by omega) (by omega) (by omega) (by omega) hyjq hpv
        refine Gx.regionO (fun j => j == 13) 15 [0, 1, 2, 3, 4, 5, 6, 7, 8, 9, 10, 11, 12, 13, 14] (fun us => match us with | [] => [Hp.own FU 1 v M, R] | u1 :: _ => [Hp.own FU 1 v (M.set jq pv), R]) Try.mixed (by kernel_rfl) rfl ?_
        refine Gw.val rfl rfl rfl rfl rfl (fun us => val_move rfl rfl) ?_
        refine Gw.val rfl rfl rfl rfl rfl (fun us => val_move rfl rfl) ?_
        refine Gw.val rfl rfl rfl rfl rfl (fun us => val_move rfl rfl) ?_
        refine Gw.val rfl rfl rfl rfl rfl (fun us => val_move rfl rfl) ?_
        refine Gw.val rfl rfl rfl rfl rfl (fun us => val_move rfl rfl) ?_
        refine Gw.val rfl rfl rfl rfl rfl (fun us => val_move rfl rfl) ?_
        refine Gw.val0 rfl rfl rfl (by kernel_rfl) rfl rfl (val_ixa rfl Try.underlying22 Try.ty28 rfl rfl (j := a) (rfl) (reach_own (k := 0) rfl hpv)) ?_
        refine Gw.val0 rfl rfl rfl (by kernel_rfl) rfl rfl (val_load rfl Try.ty28 rfl rfl (cell_own (i := 0) (k := 0) rfl hpv rfl)) ?_
        refine Gw.val rfl rfl rfl rfl rfl (fun us => val_move rfl rfl) ?_
        refine Gw.val rfl rfl rfl rfl rfl (fun us => val_move rfl rfl) ?_
        obtain ⟨x103, hx103⟩ := get_of_lt (xs := M.set jq pv) (k := jq) (by first | omega | (simp; omega))
        refine Gw.val rfl rfl rfl rfl rfl (fun us => match us with | [] => val_ixa rfl Try.underlying22 Try.ty28 rfl rfl (j := jq) (rfl) (reach_own (k := 0) rfl hyjq) | u1 :: _ => val_ixa rfl Try.underlying22 Try.ty28 rfl rfl (j := jq) (rfl) (reach_own (k := 0) rfl hx103)) ?_
        refine Gw.val0 rfl rfl rfl (by kernel_rfl) rfl rfl (val_load rfl Try.ty28 rfl rfl (cell_own (i := 0) (k := 0) rfl hyjq rfl)) ?_
        refine Gw.val0 rfl rfl rfl (by kernel_rfl) rfl rfl (val_ixa rfl Try.underlying22 Try.ty28 rfl rfl (j := jq) (rfl) (reach_own (k := 0) rfl hyjq)) ?_
        refine Gw.chg0 rfl rfl rfl rfl (Eff.mono (eff_storeElA pv rfl Try.ty28 rfl rfl rfl FU_one (k := 0) rfl FU_len hyjq (l' := [Hp.own FU 1 v (M.set jq pv), R]) rfl) (fun _ _ h => congrArg sep h)) (fun _ => ?_)
        obtain ⟨x104, hx104⟩ := get_of_lt (xs := M.set jq pv) (k := a) (by first | omega | (simp; omega))
        refine Gw.val0 rfl rfl rfl (by kernel_rfl) rfl rfl (val_ixa rfl Try.underlying22 Try.ty28 rfl rfl (j := a) (rfl) (reach_own (k := 0) rfl hx104)) ?_
        refine Gw.done ?_
        refine Gx.norm (l' := [Hp.own FU 1 v (M.set jq pv), R]) rfl ?_
        refine Gx.eff0 rfl rfl (eff_storeElA yjq rfl Try.ty28 rfl rfl rfl FU_one (k := 0) rfl FU_len hx104 (l' := [Hp.own FU 1 v ((M.set jq pv).set a yjq), R]) rfl) ?_
        rintro _ _ rfl
        refine Gx.done ?_
        refine Gx.thenN ?_
        refine Gx.seq ?_
        refine Gx.region ?_
        refine Gx.val rfl rfl rfl (val_move rfl rfl) ?_
        refine Gx.val rfl rfl rfl (val_assign rfl rfl) ?_
        refine Gx.val rfl rfl rfl (val_assign rfl rfl) ?_
        refine Gx.done ?_
        refine Gx.thenN ?_
        refine Gx.ret ?_
        refine Gx.thenR ?_
        refine Gx.ret2 Try.results49 rfl rfl ?_
        exact ⟨_, _, _, hshe, by omega, by omega, e1, e2, fun k z h0 h1 hz => Nat.not_lt.1 (e3 k z h0 h1 hz), rfl, sep1 _ _⟩
      · refine Gx.skip ?_
        refine Gx.thenN ?_
        refine Gx.seq ?_
        obtain ⟨xiq, hxiq⟩ := get_of_lt (xs := M) (k := iq) (by omega)
        obtain ⟨yjq, hyjq⟩ := get_of_lt (xs := M) (k := jq) (by omega)
        have hlt : iq < jq := by first | (exfalso; omega) | exact part_lt (P := (fun z => z < pv)) (Q := (fun z => ¬ z < pv)) hxiq hyjq (by first | omega | (dsimp only; omega)) (by first | omega | (dsimp only; omega)) (fun z h => by first | omega | (dsimp only at *; omega)) (by omega)
        refine Gx.regionO (fun j => j == 13) 15 [0, 1, 2, 3, 4, 5, 6, 7, 8, 9, 10, 11, 12, 13, 14] (fun us => match us with | [] => [Hp.own FU 1 v M, R] | u1 :: _ => [Hp.own FU 1 v (M.set iq yjq), R]) Try.mixed (by kernel_rfl) rfl ?_
        refine Gw.val rfl rfl rfl rfl rfl (fun us => val_move rfl rfl) ?_
        refine Gw.val rfl rfl rfl rfl rfl (fun us => val_move rfl rfl) ?_
        refine Gw.val rfl rfl rfl rfl rfl (fun us => val_move rfl rfl) ?_
        refine Gw.val rfl rfl rfl rfl rfl (fun us => val_move rfl rfl) ?_
        refine Gw.val rfl rfl rfl rfl rfl (fun us => val_move rfl rfl) ?_
        refine Gw.val rfl rfl rfl rfl rfl (fun us => val_move rfl rfl) ?_
        refine Gw.val0 rfl rfl rfl (by kernel_rfl) rfl rfl (val_ixa rfl Try.underlying22 Try.ty28 rfl rfl (j := jq) (rfl) (reach_own (k := 0) rfl hyjq)) ?_
        refine Gw.val0 rfl rfl rfl (by kernel_rfl) rfl rfl (val_load rfl Try.ty28 rfl rfl (cell_own (i := 0) (k := 0) rfl hyjq rfl)) ?_
        refine Gw.val rfl rfl rfl rfl rfl (fun us => val_move rfl rfl) ?_
        refine Gw.val rfl rfl rfl rfl rfl (fun us => val_move rfl rfl) ?_
        obtain ⟨x105, hx105⟩ := get_of_lt (xs := M.set iq yjq) (k := iq) (by first | omega | (simp; omega))
        refine Gw.val rfl rfl rfl rfl rfl (fun us => match us with | [] => val_ixa rfl Try.underlying22 Try.ty28 rfl rfl (j := iq) (rfl) (reach_own (k := 0) rfl hxiq) | u1 :: _ => val_ixa rfl Try.underlying22 Try.ty28 rfl rfl (j := iq) (rfl) (reach_own (k := 0) rfl hx105)) ?_
        refine Gw.val0 rfl rfl rfl (by kernel_rfl) rfl rfl (val_load rfl Try.ty28 rfl rfl (cell_own (i := 0) (k := 0) rfl hxiq rfl)) ?_
        refine Gw.val0 rfl rfl rfl (by kernel_rfl) rfl rfl (val_ixa rfl Try.underlying22 Try.ty28 rfl rfl (j := iq) (rfl) (reach_own (k := 0) rfl hxiq)) ?_
        refine Gw.chg0 rfl rfl rfl rfl (Eff.mono (eff_storeElA yjq rfl Try.ty28 rfl rfl rfl FU_one (k := 0) rfl FU_len hxiq (l' := [Hp.own FU 1 v (M.set iq yjq), R]) rfl) (fun _ _ h => congrArg sep h)) (fun _ => ?_)
        obtain ⟨x106, hx106⟩ := get_of_lt (xs := M.set iq yjq) (k := jq) (by first | omega | (simp; omega))
        refine Gw.val0 rfl rfl rfl (by kernel_rfl) rfl rfl (val_ixa rfl Try.underlying22 Try.ty28 rfl rfl (j := jq) (rfl) (reach_own (k := 0) rfl hx106)) ?_
        refine Gw.done ?_
        refine Gx.norm (l' := [Hp.own FU 1 v (M.set iq yjq), R]) rfl ?_
        refine Gx.eff0 rfl rfl (eff_storeElA xiq rfl Try.ty28 rfl rfl rfl FU_one (k := 0) rfl FU_len hx106 (l' := [Hp.own FU 1 v ((M.set iq yjq).set jq xiq), R]) rfl) ?_
        rintro _ _ rfl
        refine Gx.done ?_
        refine Gx.thenN ?_
        refine Gx.seq ?_
        refine Gx.region ?_
        refine Gx.val rfl rfl rfl (val_move rfl rfl) ?_
        refine Gx.val rfl rfl rfl (val_add rfl rfl rfl (r := ((iq + 1 : Nat) : Int)) (w64 (by omega) (by omega))) ?_
        refine Gx.val rfl rfl rfl (val_assign rfl rfl) ?_
        refine Gx.done ?_
        refine Gx.thenN ?_
        refine Gx.seq ?_
        refine Gx.region ?_
        refine Gx.val rfl rfl rfl (val_move rfl rfl) ?_
        refine Gx.val rfl rfl rfl (val_sub rfl rfl rfl (r := ((jq - 1 : Nat) : Int)) (w64 (by omega) (by omega))) ?_
        refine Gx.val rfl rfl rfl (val_assign rfl rfl) ?_
        refine Gx.done ?_
        refine Gx.thenN ?_
        refine Gx.seq ?_
        refine Gx.block ?_
        refine Gx.loop (ι := Nat × Nat × (List Nat)) (fun ξ => (a + 1 ≤ ξ.1) ∧ (ξ.1 ≤ ξ.2.1 + 1) ∧ (ξ.2.1 + 1 ≤ b) ∧ (Sh a b xs ξ.2.2) ∧ (ξ.2.2[a]? = some pv) ∧ (All (fun z => z < pv) (a + 1) ξ.1 ξ.2.2) ∧ (All (fun z => ¬ z < pv) (ξ.2.1 + 1) b ξ.2.2)) (fun ξ => [(0, v), (1, .int .i64 ((a : Nat) : Int)), (10, .int .i64 ((ξ.1 : Nat) : Int)), (11, .int .i64 ((ξ.2.1 : Nat) : Int))]) (fun ξ => [Hp.own FU 1 v ξ.2.2, R]) (fun ξ => ξ.2.1 + 1 - ξ.1) (iq + 1, jq - 1, (M.set iq yjq).set jq xiq) ⟨by first | omega | (dsimp only; omega), by first | omega | (dsimp only; omega), by first | omega | (dsimp only; omega), Sh.swap hsh (by omega) (by omega) (by omega) (by omega) hxiq hyjq, part_keep hpv hxiq hyjq (by omega) (by omega), part_lo hloiq hxiq hyjq (by first | omega | (exfalso; omega) | (dsimp only; omega)) hlt, part_hi hhijq hxiq hyjq (by first | omega | (exfalso; omega) | (dsimp only; omega)) hlt⟩ ((.cons rfl (.cons rfl (.cons rfl (.cons rfl .nil))))) rfl ?_
        rintro ⟨k, l, M2⟩ ⟨hai, hij, hjb, hsh2, hpv2, hlo, hhi⟩
        dsimp only at hai hij hjb hsh2 hpv2 hlo hhi
        refine Gx.know (m' := [(0, v), (1, .int .i64 ((a : Nat) : Int)), (10, .int .i64 ((k : Nat) : Int)), (11, .int .i64 ((l : Nat) : Int))]) (.cons rfl (.cons rfl (.cons rfl (.cons rfl .nil)))) (Gx.norm (l' := [Hp.own FU 1 v M2, R]) rfl ?_)
        have hM2 := hsh2.len
        refine Gx.block ?_
        refine Gx.seq ?_
        refine Gx.block ?_
        refine Gx.loop (ι := Nat) (fun ξ => (a + 1 ≤ ξ) ∧ (ξ ≤ l + 1) ∧ (k ≤ ξ) ∧ (All (fun z => z < pv) (a + 1) ξ M2)) (fun ξ => [(0, v), (1, .int .i64 ((a : Nat) : Int)), (10, .int .i64 ((ξ : Nat) : Int)), (11, .int .i64 ((l : Nat) : Int))]) (fun ξ => [Hp.own FU 1 v M2, R]) (fun ξ => l + 1 - ξ) k ⟨by first | omega | (dsimp only; omega), by first | omega | (dsimp only; omega), by first | omega | (dsimp only; omega), hlo⟩ ((.cons rfl (.cons rfl (.cons rfl (.cons rfl .nil))))) rfl ?_
        rintro kq ⟨haikq, hijkq, hiikq, hlokq⟩
        refine Gx.know (m' := [(0, v), (1, .int .i64 ((a : Nat) : Int)), (10, .int .i64 ((kq : Nat) : Int)), (11, .int .i64 ((l : Nat) : Int))]) (.cons rfl (.cons rfl (.cons rfl (.cons rfl .nil)))) (Gx.norm (l' := [Hp.own FU 1 v M2, R]) rfl ?_)
        refine Gx.seq ?_
        refine Gx.seq ?_
        refine Gx.regionQ Try.mixed (by kernel_rfl) ?_
        refine Gq.val rfl rfl rfl (val_move rfl rfl) ?_
        refine Gq.val rfl rfl rfl (val_move rfl rfl) ?_
        refine Gq.val rfl rfl rfl (val_leq rfl rfl rfl) ?_
        refine Gq.val rfl rfl rfl (val_move rfl rfl) ?_
        refine Gq.cases (t := 102) rfl (fun h107 => ?_) (fun h107 => ?_)
        · obtain ⟨xkq, hxkq⟩ := get_of_lt (xs := M2) (k := kq) (by omega)
          refine Gq.valg rfl rfl rfl rfl rfl (val_move rfl rfl) ?_
          refine Gq.valg rfl rfl rfl rfl rfl (val_move rfl rfl) ?_
          refine Gq.valg rfl rfl rfl rfl rfl (val_ixa rfl Try.underlying22 Try.ty28 rfl rfl (j := kq) (rfl) (reach_own (k := 0) rfl hxkq)) ?_
          refine Gq.valg rfl rfl rfl rfl rfl (val_load rfl Try.ty28 rfl rfl (cell_own (i := 0) (k := 0) rfl hxkq rfl)) ?_
          refine Gq.valg rfl rfl rfl rfl rfl (val_move rfl rfl) ?_
          refine Gq.valg rfl rfl rfl rfl rfl (val_move rfl rfl) ?_
          refine Gq.valg rfl rfl rfl rfl rfl (val_ixa rfl Try.underlying22 Try.ty28 rfl rfl (j := a) (rfl) (reach_own (k := 0) rfl hpv2)) ?_
          refine Gq.valg rfl rfl rfl rfl rfl (val_load rfl Try.ty28 rfl rfl (cell_own (i := 0) (k := 0) rfl hpv2 rfl)) ?_
          refine Gq.valg rfl rfl rfl rfl rfl (val_call (vs := [.int .u32 ((xkq : Nat) : Int), .int .u32 ((pv : Nat) : Int)]) rfl Try.fn47 rfl (fun w H => less_any xkq pv)) ?_
          refine Gq.val rfl rfl rfl (val_pickT rfl rfl rfl) ?_
          refine Gq.done ?_
          refine Gx.thenN ?_
          refine Gx.dec rfl (fun h108 => ?_) (fun h108 => ?_)
          · refine Gx.skip ?_
            refine Gx.thenN ?_
            refine Gx.block ?_
            refine Gx.region ?_
            refine Gx.val rfl rfl rfl (val_move rfl rfl) ?_
            refine Gx.val rfl rfl rfl (val_add rfl rfl rfl (r := ((kq + 1 : Nat) : Int)) (w64 (by omega) (by omega))) ?_
            refine Gx.val rfl rfl rfl (val_assign rfl rfl) ?_
            refine Gx.done ?_
            refine Gx.blkN ?_
            refine Gx.thenN ?_
            exact Gx.round (kq + 1) ⟨by first | omega | (dsimp only; omega), by first | omega | (dsimp only; omega), by first | omega | (dsimp only; omega), hlokq.snoc hxkq (by first | omega | (dsimp only; omega))⟩ (by first | omega | (dsimp only; omega)) ((.cons rfl (.cons rfl (.cons rfl (.cons rfl .nil))))) rfl
          · refine Gx.exit ?_
            refine Gx.thenE ?_
            refine Gx.thenE ?_
            refine Gx.blkE ?_
            refine Gx.thenN ?_
            refine Gx.seq ?_
            refine Gx.block ?_
            refine Gx.loop (ι := Nat) (fun ξ => (ξ + 1 ≤ b) ∧ (kq ≤ ξ + 1) ∧ (ξ ≤ l) ∧ (All (fun z => ¬ z < pv) (ξ + 1) b M2)) (fun ξ => [(0, v), (1, .int .i64 ((a : Nat) : Int)), (10, .int .i64 ((kq : Nat) : Int)), (11, .int .i64 ((ξ : Nat) : Int))]) (fun ξ => [Hp.own FU 1 v M2, R]) (fun ξ => ξ) l ⟨by first | omega | (dsimp only; omega), by first | omega | (dsimp only; omega), by first | omega | (dsimp only; omega), hhi⟩ ((.cons rfl (.cons rfl (.cons rfl (.cons rfl .nil))))) rfl ?_
            rintro lq ⟨hjblq, hijlq, hjjlq, hhilq⟩
            refine Gx.know (m' := [(0, v), (1, .int .i64 ((a : Nat) : Int)), (10, .int .i64 ((kq : Nat) : Int)), (11, .int .i64 ((lq : Nat) : Int))]) (.cons rfl (.cons rfl (.cons rfl (.cons rfl .nil)))) (Gx.norm (l' := [Hp.own FU 1 v M2, R]) rfl ?_)
            refine Gx.seq ?_
            refine Gx.seq ?_
            refine Gx.regionQ Try.mixed (by kernel_rfl) ?_
            refine Gq.val rfl rfl rfl (val_move rfl rfl) ?_
            refine Gq.val rfl rfl rfl (val_move rfl rfl) ?_
            refine Gq.val rfl rfl rfl (val_leq rfl rfl rfl) ?_
            refine Gq.val rfl rfl rfl (val_move rfl rfl) ?_
            refine Gq.cases (t := 118) rfl (fun h109 => ?_) (fun h109 => ?_)
            · obtain ⟨ylq, hylq⟩ := get_of_lt (xs := M2) (k := lq) (by omega)
              refine Gq.valg rfl rfl rfl rfl rfl (val_move rfl rfl) ?_
              refine Gq.valg rfl rfl rfl rfl rfl (val_move rfl rfl) ?_
              refine Gq.valg rfl rfl rfl rfl rfl (val_ixa rfl Try.underlying22 Try.ty28 rfl rfl (j := lq) (rfl) (reach_own (k := 0) rfl hylq)) ?_
              refine Gq.valg rfl rfl rfl rfl rfl (val_load rfl Try.ty28 rfl rfl (cell_own (i := 0) (k := 0) rfl hylq rfl)) ?_
              refine Gq.valg rfl rfl rfl rfl rfl (val_move rfl rfl) ?_
              refine Gq.valg rfl rfl rfl rfl rfl (val_move rfl rfl) ?_
              refine Gq.valg rfl rfl rfl rfl rfl (val_ixa rfl Try.underlying22 Try.ty28 rfl rfl (j := a) (rfl) (reach_own (k := 0) rfl hpv2)) ?_
              refine Gq.valg rfl rfl rfl rfl rfl (val_load rfl Try.ty28 rfl rfl (cell_own (i := 0) (k := 0) rfl hpv2 rfl)) ?_
              refine Gq.valg rfl rfl rfl rfl rfl (val_call (vs := [.int .u32 ((ylq : Nat) : Int), .int .u32 ((pv : Nat) : Int)]) rfl Try.fn47 rfl (fun w H => less_any ylq pv)) ?_
              refine Gq.valg rfl rfl rfl rfl rfl (val_notD rfl rfl) ?_
              refine Gq.val rfl rfl rfl (val_pickT rfl rfl rfl) ?_
              refine Gq.done ?_
              refine Gx.thenN ?_
              refine Gx.dec rfl (fun h110 => ?_) (fun h110 => ?_)
              · refine Gx.skip ?_
                refine Gx.thenN ?_
                refine Gx.block ?_
                refine Gx.region ?_
                refine Gx.val rfl rfl rfl (val_move rfl rfl) ?_
                refine Gx.val rfl rfl rfl (val_sub rfl rfl rfl (r := ((lq - 1 : Nat) : Int)) (w64 (by omega) (by omega))) ?_
                refine Gx.val rfl rfl rfl (val_assign rfl rfl) ?_
                refine Gx.done ?_
                refine Gx.blkN ?_
                refine Gx.thenN ?_
                exact Gx.round (lq - 1) ⟨by first | omega | (dsimp only; omega), by first | omega | (dsimp only; omega), by first | omega | (dsimp only; omega), hhilq.cons hylq (by first | omega | (dsimp only; omega)) (by omega)⟩ (by first | omega | (dsimp only; omega)) ((.cons rfl (.cons rfl (.cons rfl (.cons rfl .nil))))) rfl
              · refine Gx.exit ?_
                refine Gx.thenE ?_
                refine Gx.thenE ?_
                refine Gx.blkE ?_
                refine Gx.thenN ?_
                refine Gx.seq ?_
                refine Gx.seq ?_
                refine Gx.region ?_
                refine Gx.val rfl rfl rfl (val_move rfl rfl) ?_
                refine Gx.val rfl rfl rfl (val_move rfl rfl) ?_
                refine Gx.val rfl rfl rfl (val_gtr rfl rfl rfl) ?_
                refine Gx.done ?_
                refine Gx.thenN ?_
                refine Gx.dec rfl (fun h111 => ?_) (fun h111 => ?_)
                · refine Gx.exit ?_
                  refine Gx.thenE ?_
                  refine Gx.blkO rfl ?_
                  refine Gx.thenE ?_
                  refine Gx.blkE ?_
                  refine Gx.thenN ?_
                  refine Gx.seq ?_
                  obtain ⟨e1, e2, e3⟩ := part_end (fun k z h0 h1 => hlokq k z h0 (by omega)) hhilq hylq hpv2 (by omega)
                  have hshe := Sh.swap hsh2 (by omega) (by omega) (by omega) (by omega) hylq hpv2
                  refine Gx.regionO (fun j => j == 13) 15 [0, 1, 2, 3, 4, 5, 6, 7, 8, 9, 10, 11, 12, 13, 14] (fun us => match us with | [] => [Hp.own FU 1 v M2, R] | u1 :: _ => [Hp.own FU 1 v (M2.set lq pv), R]) Try.mixed (by kernel_rfl) rfl ?_
                  refine Gw.val rfl rfl rfl rfl rfl (fun us => val_move rfl rfl) ?_
                  refine Gw.val rfl rfl rfl rfl rfl (fun us => val_move rfl rfl) ?_
                  refine Gw.val rfl rfl rfl rfl rfl (fun us => val_move rfl rfl) ?_
                  refine Gw.val rfl rfl rfl rfl rfl (fun us => val_move rfl rfl) ?_
                  refine Gw.val rfl rfl rfl rfl rfl (fun us => val_move rfl rfl) ?_
                  refine Gw.val rfl rfl rfl rfl rfl (fun us => val_move rfl rfl) ?_
                  refine Gw.val0 rfl rfl rfl (by kernel_rfl) rfl rfl (val_ixa rfl Try.underlying22 Try.ty28 rfl rfl (j := a) (rfl) (reach_own (k := 0) rfl hpv2)) ?_
                  refine Gw.val0 rfl rfl rfl (by kernel_rfl) rfl rfl (val_load rfl Try.ty28 rfl rfl (cell_own (i := 0) (k := 0) rfl hpv2 rfl)) ?_
                  refine Gw.val rfl rfl rfl rfl rfl (fun us => val_move rfl rfl) ?_
                  refine Gw.val rfl rfl rfl rfl rfl (fun us => val_move rfl rfl) ?_
                  obtain ⟨x112, hx112⟩ := get_of_lt (xs := M2.set lq pv) (k := lq) (by first | omega | (simp; omega))
                  refine Gw.val rfl rfl rfl rfl rfl (fun us => match us with | [] => val_ixa rfl Try.underlying22 Try.ty28 rfl rfl (j := lq) (rfl) (reach_own (k := 0) rfl hylq) | u1 :: _ => val_ixa rfl Try.underlying22 Try.ty28 rfl rfl (j := lq) (rfl) (reach_own (k := 0) rfl hx112)) ?_
                  refine Gw.val0 rfl rfl rfl (by kernel_rfl) rfl rfl (val_load rfl Try.ty28 rfl rfl (cell_own (i := 0) (k := 0) rfl hylq rfl)) ?_
                  refine Gw.val0 rfl rfl rfl (by kernel_rfl) rfl rfl (val_ixa rfl Try.underlying22 Try.ty28 rfl rfl (j := lq) (rfl) (reach_own (k := 0) rfl hylq)) ?_
                  refine Gw.chg0 rfl rfl rfl rfl (Eff.mono (eff_storeElA pv rfl Try.ty28 rfl rfl rfl FU_one (k := 0) rfl FU_len hylq (l' := [Hp.own FU 1 v (M2.set lq pv), R]) rfl) (fun _ _ h => congrArg sep h)) (fun _ => ?_)
                  obtain ⟨x113, hx113⟩ := get_of_lt (xs := M2.set lq pv) (k := a) (by first | omega | (simp; omega))
                  refine Gw.val0 rfl rfl rfl (by kernel_rfl) rfl rfl (val_ixa rfl Try.underlying22 Try.ty28 rfl rfl (j := a) (rfl) (reach_own (k := 0) rfl hx113)) ?_
                  refine Gw.done ?_
                  refine Gx.norm (l' := [Hp.own FU 1 v (M2.set lq pv), R]) rfl ?_
                  refine Gx.eff0 rfl rfl (eff_storeElA ylq rfl Try.ty28 rfl rfl rfl FU_one (k := 0) rfl FU_len hx113 (l' := [Hp.own FU 1 v ((M2.set lq pv).set a ylq), R]) rfl) ?_
                  rintro _ _ rfl
                  refine Gx.done ?_
                  refine Gx.thenN ?_
                  refine Gx.seq ?_
                  refine Gx.region ?_
                  refine Gx.val rfl rfl rfl (val_move rfl rfl) ?_
                  refine Gx.val rfl rfl rfl (val_assign rfl rfl) ?_
                  refine Gx.val rfl rfl rfl (val_assign rfl rfl) ?_
                  refine Gx.done ?_
                  refine Gx.thenN ?_
                  refine Gx.ret ?_
                  refine Gx.ret2 Try.results49 rfl rfl ?_
                  exact ⟨_, _, _, hshe, by omega, by omega, e1, e2, fun k z h0 h1 hz => Nat.not_lt.1 (e3 k z h0 h1 hz), rfl, sep1 _ _⟩
                · refine Gx.skip ?_
                  refine Gx.thenN ?_
                  refine Gx.seq ?_
                  have hlt : kq < lq := by first | (exfalso; omega) | exact part_lt (P := (fun z => z < pv)) (Q := (fun z => ¬ z < pv)) hxkq hylq (by first | omega | (dsimp only; omega)) (by first | omega | (dsimp only; omega)) (fun z h => by first | omega | (dsimp only at *; omega)) (by omega)
                  refine Gx.regionO (fun j => j == 13) 15 [0, 1, 2, 3, 4, 5, 6, 7, 8, 9, 10, 11, 12, 13, 14] (fun us => match us with | [] => [Hp.own FU 1 v M2, R] | u1 :: _ => [Hp.own FU 1 v (M2.set kq ylq), R]) Try.mixed (by kernel_rfl) rfl ?_
                  refine Gw.val rfl rfl rfl rfl rfl (fun us => val_move rfl rfl) ?_
                  refine Gw.val rfl rfl rfl rfl rfl (fun us => val_move rfl rfl) ?_
                  refine Gw.val rfl rfl rfl rfl rfl (fun us => val_move rfl rfl) ?_
                  refine Gw.val rfl rfl rfl rfl rfl (fun us => val_move rfl rfl) ?_
                  refine Gw.val rfl rfl rfl rfl rfl (fun us => val_move rfl rfl) ?_
                  refine Gw.val rfl rfl rfl rfl rfl (fun us => val_move rfl rfl) ?_
                  refine Gw.val0 rfl rfl rfl (by kernel_rfl) rfl rfl (val_ixa rfl Try.underlying22 Try.ty28 rfl rfl (j := lq) (rfl) (reach_own (k := 0) rfl hylq)) ?_
                  refine Gw.val0 rfl rfl rfl (by kernel_rfl) rfl rfl (val_load rfl Try.ty28 rfl rfl (cell_own (i := 0) (k := 0) rfl hylq rfl)) ?_
                  refine Gw.val rfl rfl rfl rfl rfl (fun us => val_move rfl rfl) ?_
                  refine Gw.val rfl rfl rfl rfl rfl (fun us => val_move rfl rfl) ?_
                  obtain ⟨x114, hx114⟩ := get_of_lt (xs := M2.set kq ylq) (k := kq) (by first | omega | (simp; omega))
                  refine Gw.val rfl rfl rfl rfl rfl (fun us => match us with | [] => val_ixa rfl Try.underlying22 Try.ty28 rfl rfl (j := kq) (rfl) (reach_own (k := 0) rfl hxkq) | u1 :: _ => val_ixa rfl Try.underlying22 Try.ty28 rfl rfl (j := kq) (rfl) (reach_own (k := 0) rfl hx114)) ?_
                  refine Gw.val0 rfl rfl rfl (by kernel_rfl) rfl rfl (val_load rfl Try.ty28 rfl rfl (cell_own (i := 0) (k := 0) rfl hxkq rfl)) ?_
                  refine Gw.val0 rfl rfl rfl (by kernel_rfl) rfl rfl (val_ixa rfl Try.underlying22 Try.ty28 rfl rfl (j := kq) (rfl) (reach_own (k := 0) rfl hxkq)) ?_
                  refine Gw.chg0 rfl rfl rfl rfl (Eff.mono (eff_storeElA ylq rfl Try.ty28 rfl rfl rfl FU_one (k := 0) rfl FU_len hxkq (l' := [Hp.own FU 1 v (M2.set kq ylq), R]) rfl) (fun _ _ h => congrArg sep h)) (fun _ => ?_)
                  obtain ⟨x115, hx115⟩ := get_of_lt (xs := M2.set kq ylq) (k := lq) (by first | omega | (simp; omega))
                  refine Gw.val0 rfl rfl rfl (by kernel_rfl) rfl rfl (val_ixa rfl Try.underlying22 Try.ty28 rfl rfl (j := lq) (rfl) (reach_own (k := 0) rfl hx115)) ?_
                  refine Gw.done ?_
                  refine Gx.norm (l' := [Hp.own FU 1 v (M2.set kq ylq), R]) rfl ?_
                  refine Gx.eff0 rfl rfl (eff_storeElA xkq rfl Try.ty28 rfl rfl rfl FU_one (k := 0) rfl FU_len hx115 (l' := [Hp.own FU 1 v ((M2.set kq ylq).set lq xkq), R]) rfl) ?_
                  rintro _ _ rfl
                  refine Gx.done ?_
                  refine Gx.thenN ?_
                  refine Gx.seq ?_
                  refine Gx.region ?_
                  refine Gx.val rfl rfl rfl (val_move rfl rfl) ?_
                  refine Gx.val rfl rfl rfl (val_add rfl rfl rfl (r := ((kq + 1 : Nat) : Int)) (w64 (by omega) (by omega))) ?_
                  refine Gx.val rfl rfl rfl (val_assign rfl rfl) ?_
                  refine Gx.done ?_
                  refine Gx.thenN ?_
                  refine Gx.region ?_
                  refine Gx.val rfl rfl rfl (val_move rfl rfl) ?_
                  refine Gx.val rfl rfl rfl (val_sub rfl rfl rfl (r := ((lq - 1 : Nat) : Int)) (w64 (by omega) (by omega))) ?_
                  refine Gx.val rfl rfl rfl (val_assign rfl rfl) ?_
                  refine Gx.done ?_
                  refine Gx.blkN ?_
                  refine Gx.thenN ?_
                  exact Gx.round (kq + 1, lq - 1, (M2.set kq ylq).set lq xkq) ⟨by first | omega | (dsimp only; omega), by first | omega | (dsimp only; omega), by first | omega | (dsimp only; omega), Sh.swap hsh2 (by omega) (by omega) (by omega) (by omega) hxkq hylq, part_keep hpv2 hxkq hylq (by omega) (by omega), part_lo hlokq hxkq hylq (by first | omega | (exfalso; omega) | (dsimp only; omega)) hlt, part_hi hhilq hxkq hylq (by first | omega | (exfalso; omega) | (dsimp only; omega)) hlt⟩ (by first | omega | (dsimp only; omega)) ((.cons rfl (.cons rfl (.cons rfl (.cons rfl .nil))))) rfl
            · refine Gq.skipg rfl rfl rfl rfl rfl rfl ?_
              refine Gq.skipg rfl rfl rfl rfl rfl rfl ?_
              refine Gq.skipg rfl rfl rfl rfl rfl rfl ?_
              refine Gq.skipg rfl rfl rfl rfl rfl rfl ?_
              refine Gq.skipg rfl rfl rfl rfl rfl rfl ?_
              refine Gq.skipg rfl rfl rfl rfl rfl rfl ?_
              refine Gq.skipg rfl rfl rfl rfl rfl rfl ?_
              refine Gq.skipg rfl rfl rfl rfl rfl rfl ?_
              refine Gq.skipg rfl rfl rfl rfl rfl rfl ?_
              refine Gq.skipg rfl rfl rfl rfl rfl rfl ?_
              refine Gq.val rfl rfl rfl (val_pickF rfl rfl rfl) ?_
              refine Gq.done ?_
              refine Gx.thenN ?_
              refine Gx.f rfl ?_
              refine Gx.exit ?_
              refine Gx.thenE ?_
              refine Gx.thenE ?_
              refine Gx.blkE ?_
              refine Gx.thenN ?_
              refine Gx.seq ?_
              refine Gx.seq ?_
              refine Gx.region ?_
              refine Gx.val rfl rfl rfl (val_move rfl rfl) ?_
              refine Gx.val rfl rfl rfl (val_move rfl rfl) ?_
              refine Gx.val rfl rfl rfl (val_gtr rfl rfl rfl) ?_
              refine Gx.done ?_
              refine Gx.thenN ?_
              refine Gx.dec rfl (fun h116 => ?_) (fun h116 => ?_)
              · refine Gx.exit ?_
                refine Gx.thenE ?_
                refine Gx.blkO rfl ?_
                refine Gx.thenE ?_
                refine Gx.blkE ?_
                refine Gx.thenN ?_
                refine Gx.seq ?_
                obtain ⟨ylq, hylq⟩ := get_of_lt (xs := M2) (k := lq) (by omega)
                obtain ⟨e1, e2, e3⟩ := part_end (fun k z h0 h1 => hlokq k z h0 (by omega)) hhilq hylq hpv2 (by omega)
                have hshe := Sh.swap hsh2 (by omega) (by omega) (by omega) (by omega) hylq hpv2
                refine Gx.regionO (fun j => j == 13) 15 [0, 1, 2, 3, 4, 5, 6, 7, 8, 9, 10, 11, 12, 13, 14] (fun us => match us with | [] => [Hp.own FU 1 v M2, R] | u1 :: _ => [Hp.own FU 1 v (M2.set lq pv), R]) Try.mixed (by kernel_rfl) rfl ?_
                refine Gw.val rfl rfl rfl rfl rfl (fun us => val_move rfl rfl) ?_
                refine Gw.val rfl rfl rfl rfl rfl (fun us => val_move rfl rfl) ?_
                refine Gw.val rfl rfl rfl rfl rfl (fun us => val_move rfl rfl) ?_
                refine Gw.val rfl rfl rfl rfl rfl (fun us => val_move rfl rfl) ?_
                refine Gw.val rfl rfl rfl rfl rfl (fun us => val_move rfl rfl) ?_
                refine Gw.val rfl rfl rfl rfl rfl (fun us => val_move rfl rfl) ?_
                refine Gw.val0 rfl rfl rfl (by kernel_rfl) rfl rfl (val_ixa rfl Try.underlying22 Try.ty28 rfl rfl (j := a) (rfl) (reach_own (k := 0) rfl hpv2)) ?_
                refine Gw.val0 rfl rfl rfl (by kernel_rfl) rfl rfl (val_load rfl Try.ty28 rfl rfl (cell_own (i := 0) (k := 0) rfl hpv2 rfl)) ?_
                refine Gw.val rfl rfl rfl rfl rfl (fun us => val_move rfl rfl) ?_
                refine Gw.val rfl rfl rfl rfl rfl (fun us => val_move rfl rfl) ?_
                obtain ⟨x117, hx117⟩ := get_of_lt (xs := M2.set lq pv) (k := lq) (by first | omega | (simp; omega))
                refine Gw.val rfl rfl rfl rfl rfl (fun us => match us with | [] => val_ixa rfl Try.underlying22 Try.ty28 rfl rfl (j := lq) (rfl) (reach_own (k := 0) rfl hylq) | u1 :: _ => val_ixa rfl Try.underlying22 Try.ty28 rfl rfl (j := lq) (rfl) (reach_own (k := 0) rfl hx117)) ?_
                refine Gw.val0 rfl rfl rfl (by kernel_rfl) rfl rfl (val_load rfl Try.ty28 rfl rfl (cell_own (i := 0) (k := 0) rfl hylq rfl)) ?_
                refine Gw.val0 rfl rfl rfl (by kernel_rfl) rfl rfl (val_ixa rfl Try.underlying22 Try.ty28 rfl rfl (j := lq) (rfl) (reach_own (k := 0) rfl hylq)) ?_
                refine Gw.chg0 rfl rfl rfl rfl (Eff.mono (eff_storeElA pv rfl Try.ty28 rfl rfl rfl FU_one (k := 0) rfl FU_len hylq (l' := [Hp.own FU 1 v (M2.set lq pv), R]) rfl) (fun _ _ h => congrArg sep h)) (fun _ => ?_)
                obtain ⟨x118, hx118⟩ := get_of_lt (xs := M2.set lq pv) (k := a) (by first | omega | (simp; omega))
                refine Gw.val0 rfl rfl rfl (by kernel_rfl) rfl rfl (val_ixa rfl Try.underlying22 Try.ty28 rfl rfl (j := a) (rfl) (reach_own (k := 0) rfl hx118)) ?_
                refine Gw.done ?_
                refine Gx.norm (l' := [Hp.own FU 1 v (M2.set lq pv), R]) rfl ?_
                refine Gx.eff0 rfl rfl (eff_storeElA ylq rfl Try.ty28 rfl rfl rfl FU_one (k := 0) rfl FU_len hx118 (l' := [Hp.own FU 1 v ((M2.set lq pv).set a ylq), R]) rfl) ?_
                rintro _ _ rfl
                refine Gx.done ?_
                refine Gx.thenN ?_
                refine Gx.seq ?_
                refine Gx.region ?_
                refine Gx.val rfl rfl rfl (val_move rfl rfl) ?_
                refine Gx.val rfl rfl rfl (val_assign rfl rfl) ?_
                refine Gx.val rfl rfl rfl (val_assign rfl rfl) ?_
                refine Gx.done ?_
                refine Gx.thenN ?_
                refine Gx.ret ?_
                refine Gx.ret2 Try.results49 rfl rfl ?_
                exact ⟨_, _, _, hshe, by omega, by omega, e1, e2, fun k z h0 h1 hz => Nat.not_lt.1 (e3 k z h0 h1 hz), rfl, sep1 _ _⟩
              · refine Gx.skip ?_
                refine Gx.thenN ?_
                refine Gx.seq ?_
                obtain ⟨ylq, hylq⟩ := get_of_lt (xs := M2) (k := lq) (by omega)
                have hlt : kq < lq := by first | (exfalso; omega) | exact part_lt (P := (fun z => z < pv)) (Q := (fun z => ¬ z < pv)) hxkq hylq (by first | omega | (dsimp only; omega)) (by first | omega | (dsimp only; omega)) (fun z h => by first | omega | (dsimp only at *; omega)) (by omega)
                refine Gx.regionO (fun j => j == 13) 15 [0, 1, 2, 3, 4, 5, 6, 7, 8, 9, 10, 11, 12, 13, 14] (fun us => match us with | [] => [Hp.own FU 1 v M2, R] | u1 :: _ => [Hp.own FU 1 v (M2.set kq ylq), R]) Try.mixed (by kernel_rfl) rfl ?_
                refine Gw.val rfl rfl rfl rfl rfl (fun us => val_move rfl rfl) ?_
                refine Gw.val rfl rfl rfl rfl rfl (fun us => val_move rfl rfl) ?_
                refine Gw.val rfl rfl rfl rfl rfl (fun us => val_move rfl rfl) ?_
                refine Gw.val rfl rfl rfl rfl rfl (fun us => val_move rfl rfl) ?_
                refine Gw.val rfl rfl rfl rfl rfl (fun us => val_move rfl rfl) ?_
                refine Gw.val rfl rfl rfl rfl rfl (fun us => val_move rfl rfl) ?_
                refine Gw.val0 rfl rfl rfl (by kernel_rfl) rfl rfl (val_ixa rfl Try.underlying22 Try.ty28 rfl rfl (j := lq) (rfl) (reach_own (k := 0) rfl hylq)) ?_
                refine Gw.val0 rfl rfl rfl (by kernel_rfl) rfl rfl (val_load rfl Try.ty28 rfl rfl (cell_own (i := 0) (k := 0) rfl hylq rfl)) ?_
                refine Gw.val rfl rfl rfl rfl rfl (fun us => val_move rfl rfl) ?_
                refine Gw.val rfl rfl rfl rfl rfl (fun us => val_move rfl rfl) ?_
                obtain ⟨x119, hx119⟩ := get_of_lt (xs := M2.set kq ylq) (k := kq) (by first | omega | (simp; omega))
                refine Gw.val rfl rfl rfl rfl rfl (fun us => match us with | [] => val_ixa rfl Try.underlying22 Try.ty28 rfl rfl (j := kq) (rfl) (reach_own (k := 0) rfl hxkq) | u1 :: _ => val_ixa rfl Try.underlying22 Try.ty28 rfl rfl (j := kq) (rfl) (reach_own (k := 0) rfl hx119)) ?_
                refine Gw.val0 rfl rfl rfl (by kernel_rfl) rfl rfl (val_load rfl Try.ty28 rfl rfl (cell_own (i := 0) (k := 0) rfl hxkq rfl)) ?_
                refine Gw.val0 rfl rfl rfl (by kernel_rfl) rfl rfl (val_ixa rfl Try.underlying22 Try.ty28 rfl rfl (j := kq) (rfl) (reach_own (k := 0) rfl hxkq)) ?_
                refine Gw.chg0 rfl rfl rfl rfl (Eff.mono (eff_storeElA ylq rfl Try.ty28 rfl rfl rfl FU_one (k := 0) rfl FU_len hxkq (l' := [Hp.own FU 1 v (M2.set kq ylq), R]) rfl) (fun _ _ h => congrArg sep h)) (fun _ => ?_)
                obtain ⟨x120, hx120⟩ := get_of_lt (xs := M2.set kq ylq) (k := lq) (by first | omega | (simp; omega))
                refine Gw.val0 rfl rfl rfl (by kernel_rfl) rfl rfl (val_ixa rfl Try.underlying22 Try.ty28 rfl rfl (j := lq) (rfl) (reach_own (k := 0) rfl hx120)) ?_
                refine Gw.done ?_
                refine Gx.norm (l' := [Hp.own FU 1 v (M2.set kq ylq), R]) rfl ?_
                refine Gx.eff0 rfl rfl (eff_storeElA xkq rfl Try.ty28 rfl rfl rfl FU_one (k := 0) rfl FU_len hx120 (l' := [Hp.own FU 1 v ((M2.set kq ylq).set lq xkq), R]) rfl) ?_
                rintro _ _ rfl
                refine Gx.done ?_
                refine Gx.thenN ?_
                refine Gx.seq ?_
                refine Gx.region ?_
                refine Gx.val rfl rfl rfl (val_move rfl rfl) ?_
                refine Gx.val rfl rfl rfl (val_add rfl rfl rfl (r := ((kq + 1 : Nat) : Int)) (w64 (by omega) (by omega))) ?_
                refine Gx.val rfl rfl rfl (val_assign rfl rfl) ?_
                refine Gx.done ?_
                refine Gx.thenN ?_
                refine Gx.region ?_
                refine Gx.val rfl rfl rfl (val_move rfl rfl) ?_
                refine Gx.val rfl rfl rfl (val_sub rfl rfl rfl (r := ((lq - 1 : Nat) : Int)) (w64 (by omega) (by omega))) ?_
                refine Gx.val rfl rfl rfl (val_assign rfl rfl) ?_
                refine Gx.done ?_
                refine Gx.blkN ?_
                refine Gx.thenN ?_
                exact Gx.round (kq + 1, lq - 1, (M2.set kq ylq).set lq xkq) ⟨by first | omega | (dsimp only; omega), by first | omega | (dsimp only; omega), by first | omega | (dsimp only; omega), Sh.swap hsh2 (by omega) (by omega) (by omega) (by omega) hxkq hylq, part_keep hpv2 hxkq hylq (by omega) (by omega), part_lo hlokq hxkq hylq (by first | omega | (exfalso; omega) | (dsimp only; omega)) hlt, part_hi hhilq hxkq hylq (by first | omega | (exfalso; omega) | (dsimp only; omega)) hlt⟩ (by first | omega | (dsimp only; omega)) ((.cons rfl (.cons rfl (.cons rfl (.cons rfl .nil))))) rfl
        · refine Gq.skipg rfl rfl rfl rfl rfl rfl ?_
          refine Gq.skipg rfl rfl rfl rfl rfl rfl ?_
          refine Gq.skipg rfl rfl rfl rfl rfl rfl ?_
          refine Gq.skipg rfl rfl rfl rfl rfl rfl ?_
          refine Gq.skipg rfl rfl rfl rfl rfl rfl ?_
          refine Gq.skipg rfl rfl rfl rfl rfl rfl ?_
          refine Gq.skipg rfl rfl rfl rfl rfl rfl ?_
          refine Gq.skipg rfl rfl rfl rfl rfl rfl ?_
          refine Gq.skipg rfl rfl rfl rfl rfl rfl ?_
          refine Gq.val rfl rfl rfl (val_pickF rfl rfl rfl) ?_
          refine Gq.done ?_
          refine Gx.thenN ?_
          refine Gx.f rfl ?_
          refine Gx.exit ?_
          refine Gx.thenE ?_
          refine Gx.thenE ?_
          refine Gx.blkE ?_
          refine Gx.thenN ?_
          refine Gx.seq ?_
          refine Gx.block ?_
          refine Gx.loop (ι := Nat) (fun ξ => (ξ + 1 ≤ b) ∧ (kq ≤ ξ + 1) ∧ (ξ ≤ l) ∧ (All (fun z => ¬ z < pv) (ξ + 1) b M2)) (fun ξ => [(0, v), (1, .int .i64 ((a : Nat) : Int)), (10, .int .i64 ((kq : Nat) : Int)), (11, .int .i64 ((ξ : Nat) : Int))]) (fun ξ => [Hp.own FU 1 v M2, R]) (fun ξ => ξ) l ⟨by first | omega | (dsimp only; omega), by first | omega | (dsimp only; omega), by first | omega | (dsimp only; omega), hhi⟩ ((.cons rfl (.cons rfl (.cons rfl (.cons rfl .nil))))) rfl ?_
          rintro lq ⟨hjblq, hijlq, hjjlq, hhilq⟩
          refine Gx.know (m' := [(0, v), (1, .int .i64 ((a : Nat) : Int)), (10, .int .i64 ((kq : Nat) : Int)), (11, .int .i64 ((lq : Nat) : Int))]) (.cons rfl (.cons rfl (.cons rfl (.cons rfl .nil)))) (Gx.norm (l' := [Hp.own FU 1 v M2, R]) rfl ?_)
          refine Gx.seq ?_
          refine Gx.seq ?_
          refine Gx.regionQ Try.mixed (by kernel_rfl) ?_
          refine Gq.val rfl rfl rfl (val_move rfl rfl) ?_
          refine Gq.val rfl rfl rfl (val_move rfl rfl) ?_
          refine Gq.val rfl rfl rfl (val_leq rfl rfl rfl) ?_
          refine Gq.val rfl rfl rfl (val_move rfl rfl) ?_
          refine Gq.cases (t := 118) rfl (fun h121 => ?_) (fun h121 => ?_)
          · obtain ⟨ylq, hylq⟩ := get_of_lt (xs := M2) (k := lq) (by omega)
            refine Gq.valg rfl rfl rfl rfl rfl (val_move rfl rfl) ?_
            refine Gq.valg rfl rfl rfl rfl rfl (val_move rfl rfl) ?_
            refine Gq.valg rfl rfl rfl rfl rfl (val_ixa rfl Try.underlying22 Try.ty28 rfl rfl (j := lq) (rfl) (reach_own (k := 0) rfl hylq)) ?_
            refine Gq.valg rfl rfl rfl rfl rfl (val_load rfl Try.ty28 rfl rfl (cell_own (i := 0) (k := 0) rfl hylq rfl)) ?_
            refine Gq.valg rfl rfl rfl rfl rfl (val_move rfl rfl) ?_
            refine Gq.valg rfl rfl rfl rfl rfl (val_move rfl rfl) ?_
            refine Gq.valg rfl rfl rfl rfl rfl (val_ixa rfl Try.underlying22 Try.ty28 rfl rfl (j := a) (rfl) (reach_own (k := 0) rfl hpv2)) ?_
            refine Gq.valg rfl rfl rfl rfl rfl (val_load rfl Try.ty28 rfl rfl (cell_own (i := 0) (k := 0) rfl hpv2 rfl)) ?_
            refine Gq.valg rfl rfl rfl rfl rfl (val_call (vs := [.int .u32 ((ylq : Nat) : Int), .int .u32 ((pv : Nat) : Int)]) rfl Try.fn47 rfl (fun w H => less_any ylq pv)) ?_
            refine Gq.valg rfl rfl rfl rfl rfl (val_notD rfl rfl) ?_
            refine Gq.val rfl rfl rfl (val_pickT rfl rfl rfl) ?_
            refine Gq.done ?_
            refine Gx.thenN ?_
            refine Gx.dec rfl (fun h122 => ?_) (fun h122 => ?_)
            · refine Gx.skip ?_
              refine Gx.thenN ?_
              refine Gx.block ?_
              refine Gx.region ?_
              refine Gx.val rfl rfl rfl (val_move rfl rfl) ?_
              refine Gx.val rfl rfl rfl (val_sub rfl rfl rfl (r := ((lq - 1 : Nat) : Int)) (w64 (by omega) (by omega))) ?_
              refine Gx.val rfl rfl rfl (val_assign rfl rfl) ?_
              refine Gx.done ?_
              refine Gx.blkN ?_
              refine Gx.thenN ?_
              exact Gx.round (lq - 1) ⟨by first | omega | (dsimp only; omega), by first | omega | (dsimp only; omega), by first | omega | (dsimp only; omega), hhilq.cons hylq (by first | omega | (dsimp only; omega)) (by omega)⟩ (by first | omega | (dsimp only; omega)) ((.cons rfl (.cons rfl (.cons rfl (.cons rfl .nil))))) rfl
            · refine Gx.exit ?_
              refine Gx.thenE ?_
              refine Gx.thenE ?_
              refine Gx.blkE ?_
              refine Gx.thenN ?_
              refine Gx.seq ?_
              refine Gx.seq ?_
              refine Gx.region ?_
              refine Gx.val rfl rfl rfl (val_move rfl rfl) ?_
              refine Gx.val rfl rfl rfl (val_move rfl rfl) ?_
              refine Gx.val rfl rfl rfl (val_gtr rfl rfl rfl) ?_
              refine Gx.done ?_
              refine Gx.thenN ?_
              refine Gx.dec rfl (fun h123 => ?_) (fun h123 => ?_)
              · refine Gx.exit ?_
                refine Gx.thenE ?_
                refine Gx.blkO rfl ?_
                refine Gx.thenE ?_
                refine Gx.blkE ?_
                refine Gx.thenN ?_
                refine Gx.seq ?_
                obtain ⟨e1, e2, e3⟩ := part_end (fun k z h0 h1 => hlokq k z h0 (by omega)) hhilq hylq hpv2 (by omega)
                have hshe := Sh.swap hsh2 (by omega) (by omega) (by omega) (by omega) hylq hpv2
                refine Gx.regionO (fun j => j == 13) 15 [0, 1, 2, 3, 4, 5, 6, 7, 8, 9, 10, 11, 12, 13, 14] (fun us => match us with | [] => [Hp.own FU 1 v M2, R] | u1 :: _ => [Hp.own FU 1 v (M2.set lq pv), R]) Try.mixed (by kernel_rfl) rfl ?_
                refine Gw.val rfl rfl rfl rfl rfl (fun us => val_move rfl rfl) ?_
                refine Gw.val rfl rfl rfl rfl rfl (fun us => val_move rfl rfl) ?_
                refine Gw.val rfl rfl rfl rfl rfl (fun us => val_move rfl rfl) ?_
                refine Gw.val rfl rfl rfl rfl rfl (fun us => val_move rfl rfl) ?_
                refine Gw.val rfl rfl rfl rfl rfl (fun us => val_move rfl rfl) ?_
                refine Gw.val rfl rfl rfl rfl rfl (fun us => val_move rfl rfl) ?_
                refine Gw.val0 rfl rfl rfl (by kernel_rfl) rfl rfl (val_ixa rfl Try.underlying22 Try.ty28 rfl rfl (j := a) (rfl) (reach_own (k := 0) rfl hpv2)) ?_
                refine Gw.val0 rfl rfl rfl (by kernel_rfl) rfl rfl (val_load rfl Try.ty28 rfl rfl (cell_own (i := 0) (k := 0) rfl hpv2 rfl)) ?_
                refine Gw.val rfl rfl rfl rfl rfl (fun us => val_move rfl rfl) ?_
                refine Gw.val rfl rfl rfl rfl rfl (fun us => val_move rfl rfl) ?_
                obtain ⟨x124, hx124⟩ := get_of_lt (xs := M2.set lq pv) (k := lq) (by first | omega | (simp; omega))
                refine Gw.val rfl rfl rfl rfl rfl (fun us => match us with | [] => val_ixa rfl Try.underlying22 Try.ty28 rfl rfl (j := lq) (rfl) (reach_own (k := 0) rfl hylq) | u1 :: _ => val_ixa rfl Try.underlying22 Try.ty28 rfl rfl (j := lq) (rfl) (reach_own (k := 0) rfl hx124)) ?_
                refine Gw.val0 rfl rfl rfl (by kernel_rfl) rfl rfl (val_load rfl Try.ty28 rfl rfl (cell_own (i := 0) (k := 0) rfl hylq rfl)) ?_
                refine Gw.val0 rfl rfl rfl (by kernel_rfl) rfl rfl (val_ixa rfl Try.underlying22 Try.ty28 rfl rfl (j := lq) (rfl) (reach_own (k := 0) rfl hylq)) ?_
                refine Gw.chg0 rfl rfl rfl rfl (Eff.mono (eff_storeElA pv rfl Try.ty28 rfl rfl rfl FU_one (k := 0) rfl FU_len hylq (l' := [Hp.own FU 1 v (M2.set lq pv), R]) rfl) (fun _ _ h => congrArg sep h)) (fun _ => ?_)
                obtain ⟨x125, hx125⟩ := get_of_lt (xs := M2.set lq pv) (k := a) (by first | omega | (simp; omega))
                refine Gw.val0 rfl rfl rfl (by kernel_rfl) rfl rfl (val_ixa rfl Try.underlying22 Try.ty28 rfl rfl (j := a) (rfl) (reach_own (k := 0) rfl hx125)) ?_
                refine Gw.done ?_
                refine Gx.norm (l' := [Hp.own FU 1 v (M2.set lq pv), R]) rfl ?_
                refine Gx.eff0 rfl rfl (eff_storeElA ylq rfl Try.ty28 rfl rfl rfl FU_one (k := 0) rfl FU_len hx125 (l' := [Hp.own FU 1 v ((M2.set lq pv).set a ylq), R]) rfl) ?_
                rintro _ _ rfl
                refine Gx.done ?_
                refine Gx.thenN ?_
                refine Gx.seq ?_
                refine Gx.region ?_
                refine Gx.val rfl rfl rfl (val_move rfl rfl) ?_
                refine Gx.val rfl rfl rfl (val_assign rfl rfl) ?_
                refine Gx.val rfl rfl rfl (val_assign rfl rfl) ?_
                refine Gx.done ?_
                refine Gx.thenN ?_
                refine Gx.ret ?_
                refine Gx.ret2 Try.results49 rfl rfl ?_
                exact ⟨_, _, _, hshe, by omega, by omega, e1, e2, fun k z h0 h1 hz => Nat.not_lt.1 (e3 k z h0 h1 hz), rfl, sep1 _ _⟩
              · refine Gx.skip ?_
                refine Gx.thenN ?_
                refine Gx.seq ?_
                obtain ⟨xkq, hxkq⟩ := get_of_lt (xs := M2) (k := kq) (by omega)
                have hlt : kq < lq := by first | (exfalso; omega) | exact part_lt (P := (fun z => z < pv)) (Q := (fun z => ¬ z < pv)) hxkq hylq (by first | omega | (dsimp only; omega)) (by first | omega | (dsimp only; omega)) (fun z h => by first | omega | (dsimp only at *; omega)) (by omega)
                refine Gx.regionO (fun j => j == 13) 15 [0, 1, 2, 3, 4, 5, 6, 7, 8, 9, 10, 11, 12, 13, 14] (fun us => match us with | [] => [Hp.own FU 1 v M2, R] | u1 :: _ => [Hp.own FU 1 v (M2.set kq ylq), R]) Try.mixed (by kernel_rfl) rfl ?_
                refine Gw.val rfl rfl rfl rfl rfl (fun us => val_move rfl rfl) ?_
                refine Gw.val rfl rfl rfl rfl rfl (fun us => val_move rfl rfl) ?_
                refine Gw.val rfl rfl rfl rfl rfl (fun us => val_move rfl rfl) ?_
                refine Gw.val rfl rfl rfl rfl rfl (fun us => val_move rfl rfl) ?_
                refine Gw.val rfl rfl rfl rfl rfl (fun us => val_move rfl rfl) ?_
                refine Gw.val rfl rfl rfl rfl rfl (fun us => val_move rfl rfl) ?_
                refine Gw.val0 rfl rfl rfl (by kernel_rfl) rfl rfl (val_ixa rfl Try.underlying22 Try.ty28 rfl rfl (j := lq) (rfl) (reach_own (k := 0) rfl hylq)) ?_
                refine Gw.val0 rfl rfl rfl (by kernel_rfl) rfl rfl (val_load rfl Try.ty28 rfl rfl (cell_own (i := 0) (k := 0) rfl hylq rfl)) ?_
                refine Gw.val rfl rfl rfl rfl rfl (fun us => val_move rfl rfl) ?_
                refine Gw.val rfl rfl rfl rfl rfl (fun us => val_move rfl rfl) ?_
                obtain ⟨x126, hx126⟩ := get_of_lt (xs := M2.set kq ylq) (k := kq) (by first | omega | (simp; omega))
                refine Gw.val rfl rfl rfl rfl rfl (fun us => match us with | [] => val_ixa rfl Try.underlying22 Try.ty28 rfl rfl (j := kq) (rfl) (reach_own (k := 0) rfl hxkq) | u1 :: _ => val_ixa rfl Try.underlying22 Try.ty28 rfl rfl (j := kq) (rfl) (reach_own (k := 0) rfl hx126)) ?_
                refine Gw.val0 rfl rfl rfl (by kernel_rfl) rfl rfl (val_load rfl Try.ty28 rfl rfl (cell_own (i := 0) (k := 0) rfl hxkq rfl)) ?_
                refine Gw.val0 rfl rfl rfl (by kernel_rfl) rfl rfl (val_ixa rfl Try.underlying22 Try.ty28 rfl rfl (j := kq) (rfl) (reach_own (k := 0) rfl hxkq)) ?_
                refine Gw.chg0 rfl rfl rfl rfl (Eff.mono (eff_storeElA ylq rfl Try.ty28 rfl rfl rfl FU_one (k := 0) rfl FU_len hxkq (l' := [Hp.own FU 1 v (M2.set kq ylq), R]) rfl) (fun _ _ h => congrArg sep h)) (fun _ => ?_)
                obtain ⟨x127, hx127⟩ := get_of_lt (xs := M2.set kq ylq) (k := lq) (by first | omega | (simp; omega))
                refine Gw.val0 rfl rfl rfl (by kernel_rfl) rfl rfl (val_ixa rfl Try.underlying22 Try.ty28 rfl rfl (j := lq) (rfl) (reach_own (k := 0) rfl hx127)) ?_
                refine Gw.done ?_
                refine Gx.norm (l' := [Hp.own FU 1 v (M2.set kq ylq), R]) rfl ?_
                refine Gx.eff0 rfl rfl (eff_storeElA xkq rfl Try.ty28 rfl rfl rfl FU_one (k := 0) rfl FU_len hx127 (l' := [Hp.own FU 1 v ((M2.set kq ylq).set lq xkq), R]) rfl) ?_
                rintro _ _ rfl
                refine Gx.done ?_
                refine Gx.thenN ?_
                refine Gx.seq ?_
                refine Gx.region ?_
                refine Gx.val rfl rfl rfl (val_move rfl rfl) ?_
                refine Gx.val rfl rfl rfl (val_add rfl rfl rfl (r := ((kq + 1 : Nat) : Int)) (w64 (by omega) (by omega))) ?_
                refine Gx.val rfl rfl rfl (val_assign rfl rfl) ?_
                refine Gx.done ?_
                refine Gx.thenN ?_
                refine Gx.region ?_
                refine Gx.val rfl rfl rfl (val_move rfl rfl) ?_
                refine Gx.val rfl rfl rfl (val_sub rfl rfl rfl (r := ((lq - 1 : Nat) : Int)) (w64 (by omega) (by omega))) ?_
                refine Gx.val rfl rfl rfl (val_assign rfl rfl) ?_
                refine Gx.done ?_
                refine Gx.blkN ?_
                refine Gx.thenN ?_
                exact Gx.round (kq + 1, lq - 1, (M2.set kq ylq).set lq xkq) ⟨by first | omega | (dsimp only; omega), by first | omega | (dsimp only; omega), by first | omega | (dsimp only; omega), Sh.swap hsh2 (by omega) (by omega) (by omega) (by omega) hxkq hylq, part_keep hpv2 hxkq hylq (by omega) (by omega), part_lo hlokq hxkq hylq (by first | omega | (exfalso; omega) | (dsimp only; omega)) hlt, part_hi hhilq hxkq hylq (by first | omega | (exfalso; omega) | (dsimp only; omega)) hlt⟩ (by first | omega | (dsimp only; omega)) ((.cons rfl (.cons rfl (.cons rfl (.cons rfl .nil))))) rfl
          · refine Gq.skipg rfl rfl rfl rfl rfl rfl ?_
            refine Gq.skipg rfl rfl rfl rfl rfl rfl ?_
            refine Gq.skipg rfl rfl rfl rfl rfl rfl ?_
            refine Gq.skipg rfl rfl rfl rfl rfl rfl ?_
            refine Gq.skipg rfl rfl rfl rfl rfl rfl ?_
            refine Gq.skipg rfl rfl rfl rfl rfl rfl ?_
            refine Gq.skipg rfl rfl rfl rfl rfl rfl ?_
            refine Gq.skipg rfl rfl rfl rfl rfl rfl ?_
            refine Gq.skipg rfl rfl rfl rfl rfl rfl ?_
            refine Gq.skipg rfl rfl rfl rfl rfl rfl ?_
            refine Gq.val rfl rfl rfl (val_pickF rfl rfl rfl) ?_
            refine Gq.done ?_
            refine Gx.thenN ?_
            refine Gx.f rfl ?_
            refine Gx.exit ?_
            refine Gx.thenE ?_
            refine Gx.thenE ?_
            refine Gx.blkE ?_
            refine Gx.thenN ?_
            refine Gx.seq ?_
            refine Gx.seq ?_
            refine Gx.region ?_
            refine Gx.val rfl rfl rfl (val_move rfl rfl) ?_
            refine Gx.val rfl rfl rfl (val_move rfl rfl) ?_
            refine Gx.val rfl rfl rfl (val_gtr rfl rfl rfl) ?_
            refine Gx.done ?_
            refine Gx.thenN ?_
            refine Gx.dec rfl (fun h128 => ?_) (fun h128 => ?_)
            · refine Gx.exit ?_
              refine Gx.thenE ?_
              refine Gx.blkO rfl ?_
              refine Gx.thenE ?_
              refine Gx.blkE ?_
              refine Gx.thenN ?_
              refine Gx.seq ?_
              obtain ⟨ylq, hylq⟩ := get_of_lt (xs := M2) (k := lq) (by omega)
              obtain ⟨e1, e2, e3⟩ := part_end (fun k z h0 h1 => hlokq k z h0 (by omega)) hhilq hylq hpv2 (by omega)
              have hshe := Sh.swap hsh2 (by omega) (by omega) (by omega) (by omega) hylq hpv2
              refine Gx.regionO (fun j => j == 13) 15 [0, 1, 2, 3, 4, 5, 6, 7, 8, 9, 10, 11, 12, 13, 14] (fun us => match us with | [] => [Hp.own FU 1 v M2, R] | u1 :: _ => [Hp.own FU 1 v (M2.set lq pv), R]) Try.mixed (by kernel_rfl) rfl ?_
              refine Gw.val rfl rfl rfl rfl rfl (fun us => val_move rfl rfl) ?_
              refine Gw.val rfl rfl rfl rfl rfl (fun us => val_move rfl rfl) ?_
              refine Gw.val rfl rfl rfl rfl rfl (fun us => val_move rfl rfl) ?_
              refine Gw.val rfl rfl rfl rfl rfl (fun us => val_move rfl rfl) ?_
              refine Gw.val rfl rfl rfl rfl rfl (fun us => val_move rfl rfl) ?_
              refine Gw.val rfl rfl rfl rfl rfl (fun us => val_move rfl rfl) ?_
              refine Gw.val0 rfl rfl rfl (by kernel_rfl) rfl rfl (val_ixa rfl Try.underlying22 Try.ty28 rfl rfl (j := a) (rfl) (reach_own (k := 0) rfl hpv2)) ?_
              refine Gw.val0 rfl rfl rfl (by kernel_rfl) rfl rfl (val_load rfl Try.ty28 rfl rfl (cell_own (i := 0) (k := 0) rfl hpv2 rfl)) ?_
              refine Gw.val rfl rfl rfl rfl rfl (fun us => val_move rfl rfl) ?_
              refine Gw.val rfl rfl rfl rfl rfl (fun us => val_move rfl rfl) ?_
              obtain ⟨x129, hx129⟩ := get_of_lt (xs := M2.set lq pv) (k := lq) (by first | omega | (simp; omega))
              refine Gw.val rfl rfl rfl rfl rfl (fun us => match us with | [] => val_ixa rfl Try.underlying22 Try.ty28 rfl rfl (j := lq) (rfl) (reach_own (k := 0) rfl hylq) | u1 :: _ => val_ixa rfl Try.underlying22 Try.ty28 rfl rfl (j := lq) (rfl) (reach_own (k := 0) rfl hx129)) ?_
              refine Gw.val0 rfl rfl rfl (by kernel_rfl) rfl rfl (val_load rfl Try.ty28 rfl rfl (cell_own (i := 0) (k := 0) rfl hylq rfl)) ?_
              refine Gw.val0 rfl rfl rfl (by kernel_rfl) rfl rfl (val_ixa rfl Try.underlying22 Try.ty28 rfl rfl (j := lq) (rfl) (reach_own (k := 0) rfl hylq)) ?_
              refine Gw.chg0 rfl rfl rfl rfl (Eff.mono (eff_storeElA pv rfl Try.ty28 rfl rfl rfl FU_one (k := 0) rfl FU_len hylq (l' := [Hp.own FU 1 v (M2.set lq pv), R]) rfl) (fun _ _ h => congrArg sep h)) (fun _ => ?_)
              obtain ⟨x130, hx130⟩ := get_of_lt (xs := M2.set lq pv) (k := a) (by first | omega | (simp; omega))
              refine Gw.val0 rfl rfl rfl (by kernel_rfl) rfl rfl (val_ixa rfl Try.underlying22 Try.ty28 rfl rfl (j := a) (rfl) (reach_own (k := 0) rfl hx130)) ?_
              refine Gw.done ?_
              refine Gx.norm (l' := [Hp.own FU 1 v (M2.set lq pv), R]) rfl ?_
              refine Gx.eff0 rfl rfl (eff_storeElA ylq rfl Try.ty28 rfl rfl rfl FU_one (k := 0) rfl FU_len hx130 (l' := [Hp.own FU 1 v ((M2.set lq pv).set a ylq), R]) rfl) ?_
              rintro _ _ rfl
              refine Gx.done ?_
              refine Gx.thenN ?_
              refine Gx.seq ?_
              refine Gx.region ?_
              refine Gx.val rfl rfl rfl (val_move rfl rfl) ?_
              refine Gx.val rfl rfl rfl (val_assign rfl rfl) ?_
              refine Gx.val rfl rfl rfl (val_assign rfl rfl) ?_
              refine Gx.done ?_
              refine Gx.thenN ?_
              refine Gx.ret ?_
              refine Gx.ret2 Try.results49 rfl rfl ?_
              exact ⟨_, _, _, hshe, by omega, by omega, e1, e2, fun k z h0 h1 hz => Nat.not_lt.1 (e3 k z h0 h1 hz), rfl, sep1 _ _⟩
            · refine Gx.skip ?_
              refine Gx.thenN ?_
              refine Gx.seq ?_
              obtain ⟨xkq, hxkq⟩ := get_of_lt (xs := M2) (k := kq) (by omega)
              obtain ⟨ylq, hylq⟩ := get_of_lt (xs := M2) (k := lq) (by omega)
              have hlt : kq < lq := by first | (exfalso; omega) | exact part_lt (P := (fun z => z < pv)) (Q := (fun z => ¬ z < pv)) hxkq hylq (by first | omega | (dsimp only; omega)) (by first | omega | (dsimp only; omega)) (fun z h => by first | omega | (dsimp only at *; omega)) (by omega)
              refine Gx.regionO (fun j => j == 13) 15 [0, 1, 2, 3, 4, 5, 6, 7, 8, 9, 10, 11, 12, 13, 14] (fun us => match us with | [] => [Hp.own FU 1 v M2, R] | u1 :: _ => [Hp.own FU 1 v (M2.set kq ylq), R]) Try.mixed (by kernel_rfl) rfl ?_
              refine Gw.val rfl rfl rfl rfl rfl (fun us => val_move rfl rfl) ?_
              refine Gw.val rfl rfl rfl rfl rfl (fun us => val_move rfl rfl) ?_
              refine Gw.val rfl rfl rfl rfl rfl (fun us => val_move rfl rfl) ?_
              refine Gw.val rfl rfl rfl rfl rfl (fun us => val_move rfl rfl) ?_
              refine Gw.val rfl rfl rfl rfl rfl (fun us => val_move rfl rfl) ?_
              refine Gw.val rfl rfl rfl rfl rfl (fun us => val_move rfl rfl) ?_
              refine Gw.val0 rfl rfl rfl (by kernel_rfl) rfl rfl (val_ixa rfl Try.underlying22 Try.ty28 rfl rfl (j := lq) (rfl) (reach_own (k := 0) rfl hylq)) ?_
              refine Gw.val0 rfl rfl rfl (by kernel_rfl) rfl rfl (val_load rfl Try.ty28 rfl rfl (cell_own (i := 0) (k := 0) rfl hylq rfl)) ?_
              refine Gw.val rfl rfl rfl rfl rfl (fun us => val_move rfl rfl) ?_
              refine Gw.val rfl rfl rfl rfl rfl (fun us => val_move rfl rfl) ?_
              obtain ⟨x131, hx131⟩ := get_of_lt (xs := M2.set kq ylq) (k := kq) (by first | omega | (simp; omega))
              refine Gw.val rfl rfl rfl rfl rfl (fun us => match us with | [] => val_ixa rfl Try.underlying22 Try.ty28 rfl rfl (j := kq) (rfl) (reach_own (k := 0) rfl hxkq) | u1 :: _ => val_ixa rfl Try.underlying22 Try.ty28 rfl rfl (j := kq) (rfl) (reach_own (k := 0) rfl hx131)) ?_
              refine Gw.val0 rfl rfl rfl (by kernel_rfl) rfl rfl (val_load rfl Try.ty28 rfl rfl (cell_own (i := 0) (k := 0) rfl hxkq rfl)) ?_
              refine Gw.val0 rfl rfl rfl (by kernel_rfl) rfl rfl (val_ixa rfl Try.underlying22 Try.ty28 rfl rfl (j := kq) (rfl) (reach_own (k := 0) rfl hxkq)) ?_
              refine Gw.chg0 rfl rfl rfl rfl (Eff.mono (eff_storeElA ylq rfl Try.ty28 rfl rfl rfl FU_one (k := 0) rfl FU_len hxkq (l' := [Hp.own FU 1 v (M2.set kq ylq), R]) rfl) (fun _ _ h => congrArg sep h)) (fun _ => ?_)
              obtain ⟨x132, hx132⟩ := get_of_lt (xs := M2.set kq ylq) (k := lq) (by first | omega | (simp; omega))
              refine Gw.val0 rfl rfl rfl (by kernel_rfl) rfl rfl (val_ixa rfl Try.underlying22 Try.ty28 rfl rfl (j := lq) (rfl) (reach_own (k := 0) rfl hx132)) ?_
              refine Gw.done ?_
              refine Gx.norm (l' := [Hp.own FU 1 v (M2.set kq ylq), R]) rfl ?_
              refine Gx.eff0 rfl rfl (eff_storeElA xkq rfl Try.ty28 rfl rfl rfl FU_one (k := 0) rfl FU_len hx132 (l' := [Hp.own FU 1 v ((M2.set kq ylq).set lq xkq), R]) rfl) ?_
              rintro _ _ rfl
              refine Gx.done ?_
              refine Gx.thenN ?_
              refine Gx.seq ?_
              refine Gx.region ?_
              refine Gx.val rfl rfl rfl (val_move rfl rfl) ?_
              refine Gx.val rfl rfl rfl (val_add rfl rfl rfl (r := ((kq + 1 : Nat) : Int)) (w64 (by omega) (by omega))) ?_
              refine Gx.val rfl rfl rfl (val_assign rfl rfl) ?_
              refine Gx.done ?_
              refine Gx.thenN ?_
              refine Gx.region ?_
              refine Gx.val rfl rfl rfl (val_move rfl rfl) ?_
              refine Gx.val rfl rfl rfl (val_sub rfl rfl rfl (r := ((lq - 1 : Nat) : Int)) (w64 (by omega) (by omega))) ?_
              refine Gx.val rfl rfl rfl (val_assign rfl rfl) ?_
              refine Gx.done ?_
              refine Gx.blkN ?_
              refine Gx.thenN ?_
              exact Gx.round (kq + 1, lq - 1, (M2.set kq ylq).set lq xkq) ⟨by first | omega | (dsimp only; omega), by first | omega | (dsimp only; omega), by first | omega | (dsimp only; omega), Sh.swap hsh2 (by omega) (by omega) (by omega) (by omega) hxkq hylq, part_keep hpv2 hxkq hylq (by omega) (by omega), part_lo hlokq hxkq hylq (by first | omega | (exfalso; omega) | (dsimp only; omega)) hlt, part_hi hhilq hxkq hylq (by first | omega | (exfalso; omega) | (dsimp only; omega)) hlt⟩ (by first | omega | (dsimp only; omega)) ((.cons rfl (.cons rfl (.cons rfl (.cons rfl .nil))))) rfl

end Go.Proofs.Ytpjkpnfelpfhaaa
