/- What comes once. The walks. No condition. -/
import Derived.Test.YtfpkfbffpkjgbaaA8
namespace Go.Proofs.Ytfpkfbffpkjgbaa
open Go.RowKit
set_option linter.unusedVariables false
set_option linter.unusedSimpArgs false
set_option maxRecDepth 100000

theorem set_take9 {α : Type} {ys : List α} {i : Nat} {x : α} (hi : i < ys.length) : (ys.set i x).take (i + 1) = ys.take i ++ [x] := by
  rw [take_snoc9 (x := x) (by rw [List.getElem?_set_self hi]), List.take_set_of_le (Nat.le_refl _)]
section
variable {α : Type} [DecidableEq α]
/-- neighbours alike but once -/
def cmL (xs : List α) : Nat → List α
  | 0 => []
  | n + 1 => if 0 < n ∧ xs[n - 1]? = xs[n]? then cmL xs n else cmL xs n ++ (xs[n]?).toList
theorem cmL_new {xs : List α} {n : Nat} {x : α} (hx : xs[n]? = some x) (h : n = 0 ∨ xs[n - 1]? ≠ some x) : cmL xs (n + 1) = cmL xs n ++ [x] := by
  rw [cmL, if_neg (fun q => by rcases h with h | h; omega; exact h (q.2.trans hx)), hx]; rfl
theorem cmL_old {xs : List α} {n : Nat} {x : α} (hn : 0 < n) (hx : xs[n]? = some x) (h : xs[n - 1]? = some x) : cmL xs (n + 1) = cmL xs n := by rw [cmL, if_pos ⟨hn, h.trans hx.symm⟩]
theorem cmL_short : ∀ {xs : List α}, xs.length < 2 → cmL xs xs.length = xs
  | [], _ => rfl
  | [x], _ => by simp [cmL]
  | x :: y :: l, h => by simp only [List.length_cons] at h; omega
theorem cmL_len (xs : List α) : ∀ n, (cmL xs n).length ≤ n
  | 0 => Nat.le_refl _
  | n + 1 => by
    have := cmL_len xs n
    rw [cmL]
    split
    · omega
    · rw [List.length_append]
      cases xs[n]? <;> simp <;> omega
theorem cmL_mem {ys : List α} : ∀ {n : Nat}, n ≤ ys.length → ∀ x, x ∈ cmL ys n ↔ ∃ i, i < n ∧ ys[i]? = some x
  | 0, _, x => by simp [cmL]
  | n + 1, h, x => by
    have ih := cmL_mem (ys := ys) (n := n) (by omega) x
    obtain ⟨z, hz⟩ := get_of_lt (xs := ys) (k := n) (by omega)
    rw [cmL]
    split
    · rename_i hq
      rw [ih]
      constructor
      · rintro ⟨i, h1, h2⟩; exact ⟨i, by omega, h2⟩
      · rintro ⟨i, h1, h2⟩
        by_cases e : i = n
        · subst e; exact ⟨i - 1, by omega, hq.2.trans h2⟩
        · exact ⟨i, by omega, h2⟩
    · rw [List.mem_append, ih, hz]
      constructor
      · rintro (⟨i, h1, h2⟩ | h)
        · exact ⟨i, by omega, h2⟩
        · simp at h; subst h; exact ⟨n, by omega, hz⟩
      · rintro ⟨i, h1, h2⟩
        by_cases e : i = n
        · subst e; rw [hz] at h2; cases h2; exact .inr (by simp)
        · exact .inl ⟨i, by omega, h2⟩
end
theorem compactD_any {W w : World} {v : Value} {xs : List Dt} {R : Hp} (hi : IsS v) (hl : xs.length ≤ 65000) (H : Sat W w (Hp.own FD 3 v xs * R)) :
    Calls Try.prog 44 #[v] w (Ret W fun u l => IsS u ∧ sep l = Hp.own FD 3 u (cmL xs xs.length) * R) := by
  refine Gx.enter (l := [Hp.own FD 3 v xs, R]) Try.func44 rfl Try.ntmps44 rfl (H.frame1) ?_
  refine Gx.know (m' := [(0, v)]) (.cons rfl .nil) ?_
  refine Gx.seq ?_
  refine Gx.region ?_
  refine Gx.val rfl rfl rfl (val_assign rfl rfl) ?_
  refine Gx.done ?_
  refine Gx.thenN ?_
  refine Gx.seq ?_
  refine Gx.seq ?_
  refine Gx.region ?_
  refine Gx.val rfl rfl rfl (val_move rfl rfl) ?_
  refine Gx.val rfl rfl rfl (val_len rfl Try.underlying25 rfl (len_own (k := 0) rfl)) ?_
  refine Gx.val rfl rfl rfl (val_lss rfl rfl rfl) ?_
  refine Gx.done ?_
  refine Gx.thenN ?_
  refine Gx.dec rfl (fun h1 => ?_) (fun h1 => ?_)
  · refine Gx.seq ?_
    refine Gx.region ?_
    refine Gx.val rfl rfl rfl (val_move rfl rfl) ?_
    refine Gx.val rfl rfl rfl (val_assign rfl rfl) ?_
    refine Gx.done ?_
    refine Gx.thenN ?_
    refine Gx.ret ?_
    refine Gx.thenR ?_
    have hcmE : cmL xs xs.length = xs := cmL_short (by omega)
    refine Gx.ret1 Try.results44 rfl ?_
    exact ⟨hi, by rw [hcmE]; exact sep1 _ _⟩
  refine Gx.skip ?_
  refine Gx.thenN ?_
  refine Gx.seq ?_
  refine Gx.seq ?_
  refine Gx.region ?_
  refine Gx.val rfl rfl rfl (val_assign rfl rfl) ?_
  refine Gx.done ?_
  refine Gx.thenN ?_
  refine Gx.block ?_
  refine Gx.loop (ι := Nat) (fun ξ => (ξ + 1 ≤ xs.length) ∧ (cmL xs (ξ + 1) = xs.take (ξ + 1))) (fun ξ => [(0, v), (3, .int .i64 ((ξ + 1 : Nat) : Int))]) (fun ξ => [Hp.own FD 3 v xs, R]) (fun ξ => xs.length - ξ) 0 ⟨by first | omega | (dsimp only; omega), by
    obtain ⟨x0, hx0⟩ := get_of_lt (xs := xs) (k := 0) (by omega)
    rw [cmL_new hx0 (.inl rfl), take_snoc9 hx0]; rfl⟩ ((.cons rfl (.cons rfl .nil))) rfl ?_
  rintro kk ⟨hk, hcm⟩
  refine Gx.know (m' := [(0, v), (3, .int .i64 ((kk + 1 : Nat) : Int))]) (.cons rfl (.cons rfl .nil)) (Gx.norm (l' := [Hp.own FD 3 v xs, R]) rfl ?_)
  refine Gx.seq ?_
  refine Gx.seq ?_
  refine Gx.region ?_
  refine Gx.val rfl rfl rfl (val_move rfl rfl) ?_
  refine Gx.val rfl rfl rfl (val_move rfl rfl) ?_
  refine Gx.val rfl rfl rfl (val_len rfl Try.underlying25 rfl (len_own (k := 0) rfl)) ?_
  refine Gx.val rfl rfl rfl (val_lss rfl rfl rfl) ?_
  refine Gx.done ?_
  refine Gx.thenN ?_
  refine Gx.dec rfl (fun h2 => ?_) (fun h2 => ?_)
  · refine Gx.skip ?_
    refine Gx.thenN ?_
    refine Gx.seq ?_
    refine Gx.block ?_
    refine Gx.seq ?_
    refine Gx.regionQ Try.mixed (by kernel_rfl) ?_
    refine Gq.val rfl rfl rfl (val_move rfl rfl) ?_
    refine Gq.val rfl rfl rfl (val_move rfl rfl) ?_
    obtain ⟨x3, hx3⟩ := get_of_lt (xs := xs) (k := kk + 1) (by first | omega | (simp; omega))
    refine Gq.val rfl rfl rfl (val_ixa rfl Try.underlying25 Try.ty59 rfl rfl (j := kk + 1) (rfl) (reach_own (k := 0) rfl hx3)) ?_
    refine Gq.val rfl rfl rfl (Val.cast (val_loadA rfl Try.ty59 rfl rfl rfl (cells_own (sz := 3) (j := kk + 1) (k := 0) rfl hx3)) (v' := .agg #[.int .i64 x3.item, .int .i64 x3.who, .int .i64 x3.n]) rfl) ?_
    refine Gq.val rfl rfl rfl (val_move rfl rfl) ?_
    refine Gq.val rfl rfl rfl (val_move rfl rfl) ?_
    refine Gq.val rfl rfl rfl (val_sub rfl rfl rfl (r := ((kk : Nat) : Int)) (w64 (by omega) (by omega))) ?_
    obtain ⟨x4, hx4⟩ := get_of_lt (xs := xs) (k := kk) (by first | omega | (simp; omega))
    refine Gq.val rfl rfl rfl (val_ixa rfl Try.underlying25 Try.ty59 rfl rfl (j := kk) (rfl) (reach_own (k := 0) rfl hx4)) ?_
    refine Gq.val rfl rfl rfl (Val.cast (val_loadA rfl Try.ty59 rfl rfl rfl (cells_own (k := 0) rfl hx4)) (v' := .agg #[.int .i64 x4.item, .int .i64 x4.who, .int .i64 x4.n]) rfl) ?_
    refine Gq.val rfl rfl rfl (Val.cast (val_eqlR rfl rfl rfl (by kernel_rfl) (fun w => eqDot _ _ _ _ _ _ w)) (v' := .bool (decide (x3 = x4))) (congrArg Value.bool (decide_eq_decide.2 Dt.same))) ?_
    refine Gq.done ?_
    refine Gx.thenN ?_
    refine Gx.dec rfl (fun h5 => ?_) (fun h5 => ?_)
    · refine Gx.seq ?_
      have hx1 : xs[kk + 1]? = some x3 := hx3
      have hx0 : xs[kk]? = some x3 := by rw [hx4]; congr 1; (first | assumption | (symm; assumption) | exact Classical.not_not.1 (by assumption) | exact Eq.symm (Classical.not_not.1 (by assumption)) | omega)
      have hcm2 : cmL xs (kk + 2) = xs.take (kk + 1) := by rw [cmL_old (by omega) hx1 hx0]; exact hcm
      refine Gx.region ?_
      refine Gx.val rfl rfl rfl (val_move rfl rfl) ?_
      refine Gx.val rfl rfl rfl (val_move rfl rfl) ?_
      refine Gx.val rfl rfl rfl (val_cutFromO (lo := kk + 1) rfl Try.underlying25 Try.ty59 rfl (n := 0) rfl rfl (rfl) (by omega)) ?_
      refine Gx.val rfl rfl rfl (val_assign rfl rfl) ?_
      refine Gx.done ?_
      refine Gx.thenN ?_
      refine Gx.seq ?_
      refine Gx.seq ?_
      refine Gx.region ?_
      refine Gx.val rfl rfl rfl (val_assign rfl rfl) ?_
      refine Gx.done ?_
      refine Gx.thenN ?_
      refine Gx.block ?_
      refine Gx.loop (ι := Nat × Nat × (List Dt)) (fun ξ => (ξ.2.2.length = xs.length) ∧ (kk + 2 + ξ.1 ≤ xs.length) ∧ (ξ.2.1 ≤ kk + 1 + ξ.1) ∧ (ξ.2.2.take ξ.2.1 = cmL xs (kk + 2 + ξ.1)) ∧ (∀ i, ξ.2.1 ≤ i → ξ.2.2[i]? = xs[i]?)) (fun ξ => [(0, v), (3, .int .i64 ((ξ.2.1 : Nat) : Int)), (4, sCut 3 (kk + 1) xs.length v), (5, .int .i64 ((ξ.1 + 1 : Nat) : Int))]) (fun ξ => [Hp.own FD 3 v ξ.2.2, R]) (fun ξ => xs.length - ξ.1) (0, kk + 1, xs) ⟨rfl, by first | omega | (dsimp only; omega), by first | omega | (dsimp only; omega), hcm2.symm, fun _ _ => rfl⟩ ((.cons rfl (.cons rfl (.cons rfl (.cons rfl .nil))))) rfl ?_
      rintro ⟨q, k3, ys⟩ ⟨hyl, hq, hk3, htk, hrs⟩
      dsimp only at hyl hq hk3 htk hrs
      refine Gx.know (m' := [(0, v), (3, .int .i64 ((k3 : Nat) : Int)), (4, sCut 3 (kk + 1) xs.length v), (5, .int .i64 ((q + 1 : Nat) : Int))]) (.cons rfl (.cons rfl (.cons rfl (.cons rfl .nil)))) (Gx.norm (l' := [Hp.own FD 3 v ys, R]) rfl ?_)
      refine Gx.seq ?_
      refine Gx.seq ?_
      refine Gx.region ?_
      refine Gx.val rfl rfl rfl (val_move rfl rfl) ?_
      refine Gx.val rfl rfl rfl (val_move rfl rfl) ?_
      refine Gx.val rfl rfl rfl (val_len rfl Try.underlying25 rfl (len_cutO (f := FD) (sz := 3) (v := v) (lo := kk + 1) (up := xs.length) (k := 0) rfl)) ?_
      refine Gx.val rfl rfl rfl (val_lss rfl rfl rfl) ?_
      refine Gx.done ?_
      refine Gx.thenN ?_
      refine Gx.dec rfl (fun h6 => ?_) (fun h6 => ?_)
      · refine Gx.skip ?_
        refine Gx.thenN ?_
        refine Gx.seq ?_
        refine Gx.block ?_
        refine Gx.seq ?_
        obtain ⟨X0, hx0q⟩ := get_of_lt (xs := ys) (k := kk + 1 + q) (by omega)
        obtain ⟨X1, hx1q⟩ := get_of_lt (xs := ys) (k := kk + 1 + (q + 1)) (by omega)
        have hX0 : xs[kk + 1 + q]? = some X0 := by rw [← hrs _ (by omega)]; exact hx0q
        have hX1 : xs[kk + 2 + q]? = some X1 := by rw [show kk + 2 + q = kk + 1 + (q + 1) by omega, ← hrs _ (by omega)]; exact hx1q
        refine Gx.regionQ Try.mixed (by kernel_rfl) ?_
        refine Gq.val rfl rfl rfl (val_move rfl rfl) ?_
        refine Gq.val rfl rfl rfl (val_move rfl rfl) ?_
        refine Gq.val rfl rfl rfl (val_ixaC (f := FD) (lo := kk + 1) (up := xs.length) (j := q + 1) rfl Try.underlying25 Try.ty59 rfl (n := 0) rfl rfl (rfl) hx1q (by omega) (by omega)) ?_
        refine Gq.val rfl rfl rfl (Val.cast (val_loadA rfl Try.ty59 rfl rfl rfl (cells_own (sz := 3) (j := ((kk + 1) + (q + 1))) (k := 0) rfl hx1q)) (v' := .agg #[.int .i64 X1.item, .int .i64 X1.who, .int .i64 X1.n]) rfl) ?_
        refine Gq.val rfl rfl rfl (val_move rfl rfl) ?_
        refine Gq.val rfl rfl rfl (val_move rfl rfl) ?_
        refine Gq.val rfl rfl rfl (val_sub rfl rfl rfl (r := ((q : Nat) : Int)) (w64 (by omega) (by omega))) ?_
        refine Gq.val rfl rfl rfl (val_ixaC (f := FD) (lo := kk + 1) (up := xs.length) (j := q) rfl Try.underlying25 Try.ty59 rfl (n := 0) rfl rfl (rfl) hx0q (by omega) (by omega)) ?_
        refine Gq.val rfl rfl rfl (Val.cast (val_loadA rfl Try.ty59 rfl rfl rfl (cells_own (sz := 3) (j := ((kk + 1) + q)) (k := 0) rfl hx0q)) (v' := .agg #[.int .i64 X0.item, .int .i64 X0.who, .int .i64 X0.n]) rfl) ?_
        refine Gq.val rfl rfl rfl (Val.cast (val_neqR rfl rfl rfl (by kernel_rfl) (fun w => eqDot _ _ _ _ _ _ w)) (v' := .bool (decide (X1 ≠ X0))) (congrArg Value.bool neqDot)) ?_
        refine Gq.done ?_
        refine Gx.thenN ?_
        refine Gx.dec rfl (fun h7 => ?_) (fun h7 => ?_)
        · refine Gx.seq ?_
          refine Gx.region ?_
          refine Gx.val rfl rfl rfl (val_move rfl rfl) ?_
          refine Gx.val rfl rfl rfl (val_move rfl rfl) ?_
          refine Gx.val rfl rfl rfl (val_move rfl rfl) ?_
          refine Gx.val rfl rfl rfl (val_move rfl rfl) ?_
          refine Gx.val rfl rfl rfl (val_ixaC (f := FD) (lo := kk + 1) (up := xs.length) (j := q + 1) rfl Try.underlying25 Try.ty59 rfl (n := 0) rfl rfl (rfl) hx1q (by omega) (by omega)) ?_
          refine Gx.val rfl rfl rfl (Val.cast (val_loadA rfl Try.ty59 rfl rfl rfl (cells_own (sz := 3) (j := ((kk + 1) + (q + 1))) (k := 0) rfl hx1q)) (v' := .agg #[.int .i64 X1.item, .int .i64 X1.who, .int .i64 X1.n]) rfl) ?_
          obtain ⟨x8, hx8⟩ := get_of_lt (xs := ys) (k := k3) (by first | omega | (simp; omega))
          refine Gx.val rfl rfl rfl (val_ixa rfl Try.underlying25 Try.ty59 rfl rfl (j := k3) (rfl) (reach_own (k := 0) rfl hx8)) ?_
          refine Gx.eff0 rfl rfl (eff_storeElA (⟨X1.item, X1.who, X1.n⟩ : Dt) rfl Try.ty59 rfl rfl rfl FD_one (k := 0) rfl FD_len hx8 (l' := [Hp.own FD 3 v (ys.set k3 (⟨X1.item, X1.who, X1.n⟩ : Dt)), R]) rfl) ?_
          rintro _ _ rfl
          refine Gx.done ?_
          refine Gx.thenN ?_
          refine Gx.region ?_
          refine Gx.val rfl rfl rfl (val_move rfl rfl) ?_
          refine Gx.val rfl rfl rfl (val_add rfl rfl rfl (r := ((k3 + 1 : Nat) : Int)) (w64 (by omega) (by omega))) ?_
          refine Gx.val rfl rfl rfl (val_assign rfl rfl) ?_
          refine Gx.done ?_
          refine Gx.blkN ?_
          refine Gx.thenN ?_
          refine Gx.region ?_
          refine Gx.val rfl rfl rfl (val_move rfl rfl) ?_
          refine Gx.val rfl rfl rfl (val_add rfl rfl rfl (r := ((q + 2 : Nat) : Int)) (w64 (by omega) (by omega))) ?_
          refine Gx.val rfl rfl rfl (val_assign rfl rfl) ?_
          refine Gx.done ?_
          refine Gx.thenN ?_
          exact Gx.round (q + 1, k3 + 1, ys.set k3 (⟨X1.item, X1.who, X1.n⟩ : Dt)) ⟨by simp only [List.length_set]; exact hyl, by first | omega | (dsimp only; omega), by first | omega | (dsimp only; omega), by
            rw [set_take9 (by omega), htk, show kk + 2 + (q + 1) = (kk + 2 + q) + 1 by omega, cmL_new hX1 (.inr (fun e => by rw [show kk + 2 + q - 1 = kk + 1 + q by omega, hX0] at e; cases e; first | omega | exact absurd rfl (by assumption)))], fun i hi => by
            dsimp only at hi ⊢
            rw [List.getElem?_set, if_neg (by omega)]; exact hrs i (by omega)⟩ (by first | omega | (dsimp only; omega)) ((.cons rfl (.cons rfl (.cons rfl (.cons rfl .nil))))) rfl
        refine Gx.skip ?_
        refine Gx.blkN ?_
        refine Gx.thenN ?_
        refine Gx.region ?_
        refine Gx.val rfl rfl rfl (val_move rfl rfl) ?_
        refine Gx.val rfl rfl rfl (val_add rfl rfl rfl (r := ((q + 2 : Nat) : Int)) (w64 (by omega) (by omega))) ?_
        refine Gx.val rfl rfl rfl (val_assign rfl rfl) ?_
        refine Gx.done ?_
        refine Gx.thenN ?_
        exact Gx.round (q + 1, k3, ys) ⟨hyl, by first | omega | (dsimp only; omega), by first | omega | (dsimp only; omega), by
          rw [htk, show kk + 2 + (q + 1) = (kk + 2 + q) + 1 by omega, cmL_old (by omega) hX1 (by rw [show kk + 2 + q - 1 = kk + 1 + q by omega, hX0]; congr 1; (first | assumption | (symm; assumption) | exact Classical.not_not.1 (by assumption) | exact Eq.symm (Classical.not_not.1 (by assumption)) | omega))], hrs⟩ (by first | omega | (dsimp only; omega)) ((.cons rfl (.cons rfl (.cons rfl (.cons rfl .nil))))) rfl
      refine Gx.exit ?_
      refine Gx.thenE ?_
      refine Gx.thenE ?_
      refine Gx.blkE ?_
      refine Gx.thenN ?_
      refine Gx.seq ?_
      refine Gx.region ?_
      refine Gx.val rfl rfl rfl (val_move rfl rfl) ?_
      refine Gx.val rfl rfl rfl (val_move rfl rfl) ?_
      refine Gx.val rfl rfl rfl (val_cutFromO (lo := k3) rfl Try.underlying25 Try.ty59 rfl (n := 0) rfl rfl (rfl) (by omega)) ?_
      refine Gx.eff0 rfl rfl (eff_clear (f := FD) (v := v) (lo := k3) (up := ys.length) rfl Try.underlying25 Try.ty59 rfl (k := 0) rfl FD_len FD_one (⟨0, 0, 0⟩ : Dt) rfl (by omega) (by omega) (l' := [Hp.own FD 3 v (clr ys (⟨0, 0, 0⟩ : Dt) k3 (ys.length - k3)), R]) rfl) ?_
      rintro _ _ rfl
      refine Gx.done ?_
      refine Gx.thenN ?_
      refine Gx.seq ?_
      refine Gx.region ?_
      refine Gx.val rfl rfl rfl (val_move rfl rfl) ?_
      refine Gx.val rfl rfl rfl (val_move rfl rfl) ?_
      refine Gx.val rfl rfl rfl (val_cutToO (up := k3) rfl Try.underlying25 Try.ty59 rfl (n := 0) rfl rfl (rfl) (by rw [clr_len]; omega)) ?_
      refine Gx.val rfl rfl rfl (val_assign rfl rfl) ?_
      refine Gx.done ?_
      refine Gx.thenN ?_
      refine Gx.ret ?_
      refine Gx.blkR ?_
      refine Gx.thenR ?_
      refine Gx.thenR ?_
      refine Gx.blkR ?_
      refine Gx.thenR ?_
      refine Gx.ownCut (k := 0) 0 k3 rfl (Nat.zero_le _) (by rw [clr_len]; omega) rfl ?_
      have hqe : kk + 2 + q = xs.length := by omega
      rw [hqe] at htk
      refine Gx.norm (l' := [Hp.own FD 3 (sCut 3 0 k3 v) (cmL xs xs.length), R]) (by rw [← htk, List.drop_zero, clr_take _ _ _ _ _ (Nat.le_refl _)] <;> rfl) ?_
      refine Gx.ret1 Try.results44 rfl ?_
      exact ⟨sCut_isS hi, sep1 _ _⟩
    refine Gx.skip ?_
    refine Gx.blkN ?_
    refine Gx.thenN ?_
    refine Gx.region ?_
    refine Gx.val rfl rfl rfl (val_move rfl rfl) ?_
    refine Gx.val rfl rfl rfl (val_add rfl rfl rfl (r := ((kk + 2 : Nat) : Int)) (w64 (by omega) (by omega))) ?_
    refine Gx.val rfl rfl rfl (val_assign rfl rfl) ?_
    refine Gx.done ?_
    refine Gx.thenN ?_
    exact Gx.round (kk + 1) ⟨by first | omega | (dsimp only; omega), by rw [cmL_new hx3 (.inr (fun e => by rw [show kk + 1 - 1 = kk from rfl, hx4] at e; cases e; first | omega | exact absurd rfl (by assumption))), hcm, take_snoc9 hx3]⟩ (by first | omega | (dsimp only; omega)) ((.cons rfl (.cons rfl .nil))) rfl
  refine Gx.exit ?_
  refine Gx.thenE ?_
  refine Gx.thenE ?_
  refine Gx.blkE ?_
  refine Gx.thenN ?_
  refine Gx.seq ?_
  refine Gx.region ?_
  refine Gx.val rfl rfl rfl (val_move rfl rfl) ?_
  refine Gx.val rfl rfl rfl (val_assign rfl rfl) ?_
  refine Gx.done ?_
  refine Gx.thenN ?_
  refine Gx.ret ?_
  have hcmE : cmL xs xs.length = xs := by
    rw [show xs.length = kk + 1 by omega, hcm, List.take_of_length_le (by omega)]
  refine Gx.ret1 Try.results44 rfl ?_
  exact ⟨hi, by rw [hcmE]; exact sep1 _ _⟩

theorem compactI_any {W w : World} {v : Value} {xs : List Int} {R : Hp} (hi : IsS v) (hl : xs.length ≤ 65000) (H : Sat W w (Hp.own FI 1 v xs * R)) :
    Calls Try.prog 27 #[v] w (Ret W fun u l => IsS u ∧ sep l = Hp.own FI 1 u (cmL xs xs.length) * R) := by
  refine Gx.enter (l := [Hp.own FI 1 v xs, R]) Try.func27 rfl Try.ntmps27 rfl (H.frame1) ?_
  refine Gx.know (m' := [(0, v)]) (.cons rfl .nil) ?_
  refine Gx.seq ?_
  refine Gx.region ?_
  refine Gx.val rfl rfl rfl (val_assign rfl rfl) ?_
  refine Gx.done ?_
  refine Gx.thenN ?_
  refine Gx.seq ?_
  refine Gx.seq ?_
  refine Gx.region ?_
  refine Gx.val rfl rfl rfl (val_move rfl rfl) ?_
  refine Gx.val rfl rfl rfl (val_len rfl Try.underlying45 rfl (len_own (k := 0) rfl)) ?_
  refine Gx.val rfl rfl rfl (val_lss rfl rfl rfl) ?_
  refine Gx.done ?_
  refine Gx.thenN ?_
  refine Gx.dec rfl (fun h1 => ?_) (fun h1 => ?_)
  · refine Gx.seq ?_
    refine Gx.region ?_
    refine Gx.val rfl rfl rfl (val_move rfl rfl) ?_
    refine Gx.val rfl rfl rfl (val_assign rfl rfl) ?_
    refine Gx.done ?_
    refine Gx.thenN ?_
    refine Gx.ret ?_
    refine Gx.thenR ?_
    have hcmE : cmL xs xs.length = xs := cmL_short (by omega)
    refine Gx.ret1 Try.results27 rfl ?_
    exact ⟨hi, by rw [hcmE]; exact sep1 _ _⟩
  refine Gx.skip ?_
  refine Gx.thenN ?_
  refine Gx.seq ?_
  refine Gx.seq ?_
  refine Gx.region ?_
  refine Gx.val rfl rfl rfl (val_assign rfl rfl) ?_
  refine Gx.done ?_
  refine Gx.thenN ?_
  refine Gx.block ?_
  refine Gx.loop (ι := Nat) (fun ξ => (ξ + 1 ≤ xs.length) ∧ (cmL xs (ξ + 1) = xs.take (ξ + 1))) (fun ξ => [(0, v), (3, .int .i64 ((ξ + 1 : Nat) : Int))]) (fun ξ => [Hp.own FI 1 v xs, R]) (fun ξ => xs.length - ξ) 0 ⟨by first | omega | (dsimp only; omega), by
    obtain ⟨x0, hx0⟩ := get_of_lt (xs := xs) (k := 0) (by omega)
    rw [cmL_new hx0 (.inl rfl), take_snoc9 hx0]; rfl⟩ ((.cons rfl (.cons rfl .nil))) rfl ?_
  rintro kk ⟨hk, hcm⟩
  refine Gx.know (m' := [(0, v), (3, .int .i64 ((kk + 1 : Nat) : Int))]) (.cons rfl (.cons rfl .nil)) (Gx.norm (l' := [Hp.own FI 1 v xs, R]) rfl ?_)
  refine Gx.seq ?_
  refine Gx.seq ?_
  refine Gx.region ?_
  refine Gx.val rfl rfl rfl (val_move rfl rfl) ?_
  refine Gx.val rfl rfl rfl (val_move rfl rfl) ?_
  refine Gx.val rfl rfl rfl (val_len rfl Try.underlying45 rfl (len_own (k := 0) rfl)) ?_
  refine Gx.val rfl rfl rfl (val_lss rfl rfl rfl) ?_
  refine Gx.done ?_
  refine Gx.thenN ?_
  refine Gx.dec rfl (fun h2 => ?_) (fun h2 => ?_)
  · refine Gx.skip ?_
    refine Gx.thenN ?_
    refine Gx.seq ?_
    refine Gx.block ?_
    refine Gx.seq ?_
    refine Gx.regionQ Try.mixed (by kernel_rfl) ?_
    refine Gq.val rfl rfl rfl (val_move rfl rfl) ?_
    refine Gq.val rfl rfl rfl (val_move rfl rfl) ?_
    obtain ⟨x3, hx3⟩ := get_of_lt (xs := xs) (k := kk + 1) (by first | omega | (simp; omega))
    refine Gq.val rfl rfl rfl (val_ixa rfl Try.underlying45 Try.ty3 rfl rfl (j := kk + 1) (rfl) (reach_own (k := 0) rfl hx3)) ?_
    refine Gq.val rfl rfl rfl (val_load rfl Try.ty3 rfl rfl (cell_own (i := 0) (sz := 1) (j := kk + 1) (k := 0) rfl hx3 rfl)) ?_
    refine Gq.val rfl rfl rfl (val_move rfl rfl) ?_
    refine Gq.val rfl rfl rfl (val_move rfl rfl) ?_
    refine Gq.val rfl rfl rfl (val_sub rfl rfl rfl (r := ((kk : Nat) : Int)) (w64 (by omega) (by omega))) ?_
    obtain ⟨x4, hx4⟩ := get_of_lt (xs := xs) (k := kk) (by first | omega | (simp; omega))
    refine Gq.val rfl rfl rfl (val_ixa rfl Try.underlying45 Try.ty3 rfl rfl (j := kk) (rfl) (reach_own (k := 0) rfl hx4)) ?_
    refine Gq.val rfl rfl rfl (val_load rfl Try.ty3 rfl rfl (cell_own (i := 0) (k := 0) rfl hx4 rfl)) ?_
    refine Gq.val rfl rfl rfl (val_eql rfl rfl rfl) ?_
    refine Gq.done ?_
    refine Gx.thenN ?_
    refine Gx.dec rfl (fun h5 => ?_) (fun h5 => ?_)
    · refine Gx.seq ?_
      have hx1 : xs[kk + 1]? = some x3 := hx3
      have hx0 : xs[kk]? = some x3 := by rw [hx4]; congr 1; (first | assumption | (symm; assumption) | exact Classical.not_not.1 (by assumption) | exact Eq.symm (Classical.not_not.1 (by assumption)) | omega)
      have hcm2 : cmL xs (kk + 2) = xs.take (kk + 1) := by rw [cmL_old (by omega) hx1 hx0]; exact hcm
      refine Gx.region ?_
      refine Gx.val rfl rfl rfl (val_move rfl rfl) ?_
      refine Gx.val rfl rfl rfl (val_move rfl rfl) ?_
      refine Gx.val rfl rfl rfl (val_cutFromO (lo := kk + 1) rfl Try.underlying45 Try.ty3 rfl (n := 0) rfl rfl (rfl) (by omega)) ?_
      refine Gx.val rfl rfl rfl (val_assign rfl rfl) ?_
      refine Gx.done ?_
      refine Gx.thenN ?_
      refine Gx.seq ?_
      refine Gx.seq ?_
      refine Gx.region ?_
      refine Gx.val rfl rfl rfl (val_assign rfl rfl) ?_
      refine Gx.done ?_
      refine Gx.thenN ?_
      refine Gx.block ?_
      refine Gx.loop (ι := Nat × Nat × (List Int)) (fun ξ => (ξ.2.2.length = xs.length) ∧ (kk + 2 + ξ.1 ≤ xs.length) ∧ (ξ.2.1 ≤ kk + 1 + ξ.1) ∧ (ξ.2.2.take ξ.2.1 = cmL xs (kk + 2 + ξ.1)) ∧ (∀ i, ξ.2.1 ≤ i → ξ.2.2[i]? = xs[i]?)) (fun ξ => [(0, v), (3, .int .i64 ((ξ.2.1 : Nat) : Int)), (4, sCut 1 (kk + 1) xs.length v), (5, .int .i64 ((ξ.1 + 1 : Nat) : Int))]) (fun ξ => [Hp.own FI 1 v ξ.2.2, R]) (fun ξ => xs.length - ξ.1) (0, kk + 1, xs) ⟨rfl, by first | omega | (dsimp only; omega), by first | omega | (dsimp only; omega), hcm2.symm, fun _ _ => rfl⟩ ((.cons rfl (.cons rfl (.cons rfl (.cons rfl .nil))))) rfl ?_
      rintro ⟨q, k3, ys⟩ ⟨hyl, hq, hk3, htk, hrs⟩
      dsimp only at hyl hq hk3 htk hrs
      refine Gx.know (m' := [(0, v), (3, .int .i64 ((k3 : Nat) : Int)), (4, sCut 1 (kk + 1) xs.length v), (5, .int .i64 ((q + 1 : Nat) : Int))]) (.cons rfl (.cons rfl (.cons rfl (.cons rfl .nil)))) (Gx.norm (l' := [Hp.own FI 1 v ys, R]) rfl ?_)
      refine Gx.seq ?_
      refine Gx.seq ?_
      refine Gx.region ?_
      refine Gx.val rfl rfl rfl (val_move rfl rfl) ?_
      refine Gx.val rfl rfl rfl (val_move rfl rfl) ?_
      refine Gx.val rfl rfl rfl (val_len rfl Try.underlying45 rfl (len_cutO (f := FI) (sz := 1) (v := v) (lo := kk + 1) (up := xs.length) (k := 0) rfl)) ?_
      refine Gx.val rfl rfl rfl (val_lss rfl rfl rfl) ?_
      refine Gx.done ?_
      refine Gx.thenN ?_
      refine Gx.dec rfl (fun h6 => ?_) (fun h6 => ?_)
      · refine Gx.skip ?_
        refine Gx.thenN ?_
        refine Gx.seq ?_
        refine Gx.block ?_
        refine Gx.seq ?_
        obtain ⟨X0, hx0q⟩ := get_of_lt (xs := ys) (k := kk + 1 + q) (by omega)
        obtain ⟨X1, hx1q⟩ := get_of_lt (xs := ys) (k := kk + 1 + (q + 1)) (by omega)
        have hX0 : xs[kk + 1 + q]? = some X0 := by rw [← hrs _ (by omega)]; exact hx0q
        have hX1 : xs[kk + 2 + q]? = some X1 := by rw [show kk + 2 + q = kk + 1 + (q + 1) by omega, ← hrs _ (by omega)]; exact hx1q
        refine Gx.regionQ Try.mixed (by kernel_rfl) ?_
        refine Gq.val rfl rfl rfl (val_move rfl rfl) ?_
        refine Gq.val rfl rfl rfl (val_move rfl rfl) ?_
        refine Gq.val rfl rfl rfl (val_ixaC (f := FI) (lo := kk + 1) (up := xs.length) (j := q + 1) rfl Try.underlying45 Try.ty3 rfl (n := 0) rfl rfl (rfl) hx1q (by omega) (by omega)) ?_
        refine Gq.val rfl rfl rfl (val_load rfl Try.ty3 rfl rfl (cell_own (i := 0) (sz := 1) (j := ((kk + 1) + (q + 1))) (k := 0) rfl hx1q rfl)) ?_
        refine Gq.val rfl rfl rfl (val_move rfl rfl) ?_
        refine Gq.val rfl rfl rfl (val_move rfl rfl) ?_
        refine Gq.val rfl rfl rfl (val_sub rfl rfl rfl (r := ((q : Nat) : Int)) (w64 (by omega) (by omega))) ?_
        refine Gq.val rfl rfl rfl (val_ixaC (f := FI) (lo := kk + 1) (up := xs.length) (j := q) rfl Try.underlying45 Try.ty3 rfl (n := 0) rfl rfl (rfl) hx0q (by omega) (by omega)) ?_
        refine Gq.val rfl rfl rfl (val_load rfl Try.ty3 rfl rfl (cell_own (i := 0) (sz := 1) (j := ((kk + 1) + q)) (k := 0) rfl hx0q rfl)) ?_
        refine Gq.val rfl rfl rfl (val_neq rfl rfl rfl) ?_
        refine Gq.done ?_
        refine Gx.thenN ?_
        refine Gx.dec rfl (fun h7 => ?_) (fun h7 => ?_)
        · refine Gx.seq ?_
          refine Gx.region ?_
          refine Gx.val rfl rfl rfl (val_move rfl rfl) ?_
          refine Gx.val rfl rfl rfl (val_move rfl rfl) ?_
          refine Gx.val rfl rfl rfl (val_move rfl rfl) ?_
          refine Gx.val rfl rfl rfl (val_move rfl rfl) ?_
          refine Gx.val rfl rfl rfl (val_ixaC (f := FI) (lo := kk + 1) (up := xs.length) (j := q + 1) rfl Try.underlying45 Try.ty3 rfl (n := 0) rfl rfl (rfl) hx1q (by omega) (by omega)) ?_
          refine Gx.val rfl rfl rfl (val_load rfl Try.ty3 rfl rfl (cell_own (i := 0) (sz := 1) (j := ((kk + 1) + (q + 1))) (k := 0) rfl hx1q rfl)) ?_
          obtain ⟨x8, hx8⟩ := get_of_lt (xs := ys) (k := k3) (by first | omega | (simp; omega))
          refine Gx.val rfl rfl rfl (val_ixa rfl Try.underlying45 Try.ty3 rfl rfl (j := k3) (rfl) (reach_own (k := 0) rfl hx8)) ?_
          refine Gx.eff0 rfl rfl (eff_storeElA X1 rfl Try.ty3 rfl rfl rfl FI_one (k := 0) rfl FI_len hx8 (l' := [Hp.own FI 1 v (ys.set k3 X1), R]) rfl) ?_
          rintro _ _ rfl
          refine Gx.done ?_
          refine Gx.thenN ?_
          refine Gx.region ?_
          refine Gx.val rfl rfl rfl (val_move rfl rfl) ?_
          refine Gx.val rfl rfl rfl (val_add rfl rfl rfl (r := ((k3 + 1 : Nat) : Int)) (w64 (by omega) (by omega))) ?_
          refine Gx.val rfl rfl rfl (val_assign rfl rfl) ?_
          refine Gx.done ?_
          refine Gx.blkN ?_
          refine Gx.thenN ?_
          refine Gx.region ?_
          refine Gx.val rfl rfl rfl (val_move rfl rfl) ?_
          refine Gx.val rfl rfl rfl (val_add rfl rfl rfl (r := ((q + 2 : Nat) : Int)) (w64 (by omega) (by omega))) ?_
          refine Gx.val rfl rfl rfl (val_assign rfl rfl) ?_
          refine Gx.done ?_
          refine Gx.thenN ?_
          exact Gx.round (q + 1, k3 + 1, ys.set k3 X1) ⟨by simp only [List.length_set]; exact hyl, by first | omega | (dsimp only; omega), by first | omega | (dsimp only; omega), by
            rw [set_take9 (by omega), htk, show kk + 2 + (q + 1) = (kk + 2 + q) + 1 by omega, cmL_new hX1 (.inr (fun e => by rw [show kk + 2 + q - 1 = kk + 1 + q by omega, hX0] at e; cases e; first | omega | exact absurd rfl (by assumption)))], fun i hi => by
            dsimp only at hi ⊢
            rw [List.getElem?_set, if_neg (by omega)]; exact hrs i (by omega)⟩ (by first | omega | (dsimp only; omega)) ((.cons rfl (.cons rfl (.cons rfl (.cons rfl .nil))))) rfl
        refine Gx.skip ?_
        refine Gx.blkN ?_
        refine Gx.thenN ?_
        refine Gx.region ?_
        refine Gx.val rfl rfl rfl (val_move rfl rfl) ?_
        refine Gx.val rfl rfl rfl (val_add rfl rfl rfl (r := ((q + 2 : Nat) : Int)) (w64 (by omega) (by omega))) ?_
        refine Gx.val rfl rfl rfl (val_assign rfl rfl) ?_
        refine Gx.done ?_
        refine Gx.thenN ?_
        exact Gx.round (q + 1, k3, ys) ⟨hyl, by first | omega | (dsimp only; omega), by first | omega | (dsimp only; omega), by
          rw [htk, show kk + 2 + (q + 1) = (kk + 2 + q) + 1 by omega, cmL_old (by omega) hX1 (by rw [show kk + 2 + q - 1 = kk + 1 + q by omega, hX0]; congr 1; (first | assumption | (symm; assumption) | exact Classical.not_not.1 (by assumption) | exact Eq.symm (Classical.not_not.1 (by assumption)) | omega))], hrs⟩ (by first | omega | (dsimp only; omega)) ((.cons rfl (.cons rfl (.cons rfl (.cons rfl .nil))))) rfl
      refine Gx.exit ?_
      refine Gx.thenE ?_
      refine Gx.thenE ?_
      refine Gx.blkE ?_
      refine Gx.thenN ?_
      refine Gx.seq ?_
      refine Gx.region ?_
      refine Gx.val rfl rfl rfl (val_move rfl rfl) ?_
      refine Gx.val rfl rfl rfl (val_move rfl rfl) ?_
      refine Gx.val rfl rfl rfl (val_cutFromO (lo := k3) rfl Try.underlying45 Try.ty3 rfl (n := 0) rfl rfl (rfl) (by omega)) ?_
      refine Gx.eff0 rfl rfl (eff_clear (f := FI) (v := v) (lo := k3) (up := ys.length) rfl Try.underlying45 Try.ty3 rfl (k := 0) rfl FI_len FI_one (0 : Int) rfl (by omega) (by omega) (l' := [Hp.own FI 1 v (clr ys (0 : Int) k3 (ys.length - k3)), R]) rfl) ?_
      rintro _ _ rfl
      refine Gx.done ?_
      refine Gx.thenN ?_
      refine Gx.seq ?_
      refine Gx.region ?_
      refine Gx.val rfl rfl rfl (val_move rfl rfl) ?_
      refine Gx.val rfl rfl rfl (val_move rfl rfl) ?_
      refine Gx.val rfl rfl rfl (val_cutToO (up := k3) rfl Try.underlying45 Try.ty3 rfl (n := 0) rfl rfl (rfl) (by rw [clr_len]; omega)) ?_
      refine Gx.val rfl rfl rfl (val_assign rfl rfl) ?_
      refine Gx.done ?_
      refine Gx.thenN ?_
      refine Gx.ret ?_
      refine Gx.blkR ?_
      refine Gx.thenR ?_
      refine Gx.thenR ?_
      refine Gx.blkR ?_
      refine Gx.thenR ?_
      refine Gx.ownCut (k := 0) 0 k3 rfl (Nat.zero_le _) (by rw [clr_len]; omega) rfl ?_
      have hqe : kk + 2 + q = xs.length := by omega
      rw [hqe] at htk
      refine Gx.norm (l' := [Hp.own FI 1 (sCut 1 0 k3 v) (cmL xs xs.length), R]) (by rw [← htk, List.drop_zero, clr_take _ _ _ _ _ (Nat.le_refl _)] <;> rfl) ?_
      refine Gx.ret1 Try.results27 rfl ?_
      exact ⟨sCut_isS hi, sep1 _ _⟩
    refine Gx.skip ?_
    refine Gx.blkN ?_
    refine Gx.thenN ?_
    refine Gx.region ?_
    refine Gx.val rfl rfl rfl (val_move rfl rfl) ?_
    refine Gx.val rfl rfl rfl (val_add rfl rfl rfl (r := ((kk + 2 : Nat) : Int)) (w64 (by omega) (by omega))) ?_
    refine Gx.val rfl rfl rfl (val_assign rfl rfl) ?_
    refine Gx.done ?_
    refine Gx.thenN ?_
    exact Gx.round (kk + 1) ⟨by first | omega | (dsimp only; omega), by rw [cmL_new hx3 (.inr (fun e => by rw [show kk + 1 - 1 = kk from rfl, hx4] at e; cases e; first | omega | exact absurd rfl (by assumption))), hcm, take_snoc9 hx3]⟩ (by first | omega | (dsimp only; omega)) ((.cons rfl (.cons rfl .nil))) rfl
  refine Gx.exit ?_
  refine Gx.thenE ?_
  refine Gx.thenE ?_
  refine Gx.blkE ?_
  refine Gx.thenN ?_
  refine Gx.seq ?_
  refine Gx.region ?_
  refine Gx.val rfl rfl rfl (val_move rfl rfl) ?_
  refine Gx.val rfl rfl rfl (val_assign rfl rfl) ?_
  refine Gx.done ?_
  refine Gx.thenN ?_
  refine Gx.ret ?_
  have hcmE : cmL xs xs.length = xs := by
    rw [show xs.length = kk + 1 by omega, hcm, List.take_of_length_le (by omega)]
  refine Gx.ret1 Try.results27 rfl ?_
  exact ⟨hi, by rw [hcmE]; exact sep1 _ _⟩

end Go.Proofs.Ytfpkfbffpkjgbaa
