/- Is it a cut, whole, the same, within another; the nearest of two: the document's own words. The walks. No condition. -/
import Derived.Test.YtffnjojdjbdfcaaA6
namespace Go.Proofs.Ytffnjojdjbdfcaa
open Go.RowKit
set_option linter.unusedVariables false
set_option linter.unusedSimpArgs false
set_option maxRecDepth 100000

theorem ints_any {W : World} {va vb : Value} {xs ys : List Nat} (ha : SlS FN 1 W va xs) (hb : SlS FN 1 W vb ys) : Calls Try.prog 16 #[va, vb] W fun e w' => e = .returned (.bool (decide (xs = ys))) ∧ Below W.heap.size W w' := by
  have m1 := sls_bd ha
  have m2 := sls_bd hb
  refine calls_pure (Gx.enter (l := []) Try.func16 rfl Try.ntmps16 rfl (Sat.start W) ?_)
  refine Gx.know (m' := [(0, va), (1, vb)]) (.cons rfl (.cons rfl .nil)) ?_
  refine Gx.seq ?_
  refine Gx.region ?_
  refine Gx.val rfl rfl rfl (val_assign rfl rfl) ?_
  refine Gx.done ?_
  refine Gx.thenN ?_
  refine Gx.seq ?_
  refine Gx.seq ?_
  refine Gx.region ?_
  refine Gx.val rfl rfl rfl (val_move rfl rfl) ?_
  refine Gx.val rfl rfl rfl (val_len rfl Try.underlying23 rfl (len_base ha)) ?_
  refine Gx.val rfl rfl rfl (val_move rfl rfl) ?_
  refine Gx.val rfl rfl rfl (val_len rfl Try.underlying23 rfl (len_base hb)) ?_
  refine Gx.val rfl rfl rfl (val_neq rfl rfl rfl) ?_
  refine Gx.done ?_
  refine Gx.thenN ?_
  refine Gx.dec rfl (fun h1 => ?_) (fun h1 => ?_)
  · refine Gx.seq ?_
    refine Gx.region ?_
    refine Gx.val rfl rfl rfl (val_assign rfl rfl) ?_
    refine Gx.done ?_
    refine Gx.thenN ?_
    refine Gx.ret ?_
    refine Gx.thenR ?_
    refine Gx.ret1 Try.results16 rfl ?_
    exact (congrArg Value.bool (decide_eq_false fun h => by subst h; omega)).symm
  · refine Gx.skip ?_
    refine Gx.thenN ?_
    refine Gx.seq ?_
    refine Gx.seq ?_
    refine Gx.region ?_
    refine Gx.val rfl rfl rfl (val_assign rfl rfl) ?_
    refine Gx.done ?_
    refine Gx.thenN ?_
    refine Gx.block ?_
    refine Gx.loop (ι := Nat) (fun ξ => (ξ ≤ xs.length) ∧ (∀ q, q < ξ → xs[q]? = ys[q]?)) (fun ξ => [(0, va), (1, vb), (5, .int .i64 ((ξ : Nat) : Int))]) (fun ξ => []) (fun ξ => xs.length - ξ) 0 ⟨by first | omega | (dsimp only; omega), by omega⟩ ((.cons rfl (.cons rfl (.cons rfl .nil)))) rfl ?_
    rintro k ⟨hk, he⟩
    refine Gx.know (m' := [(0, va), (1, vb), (5, .int .i64 ((k : Nat) : Int))]) (.cons rfl (.cons rfl (.cons rfl .nil))) (Gx.norm (l' := []) rfl ?_)
    refine Gx.seq ?_
    refine Gx.seq ?_
    refine Gx.region ?_
    refine Gx.val rfl rfl rfl (val_move rfl rfl) ?_
    refine Gx.val rfl rfl rfl (val_move rfl rfl) ?_
    refine Gx.val rfl rfl rfl (val_len rfl Try.underlying23 rfl (len_base ha)) ?_
    refine Gx.val rfl rfl rfl (val_lss rfl rfl rfl) ?_
    refine Gx.done ?_
    refine Gx.thenN ?_
    refine Gx.dec rfl (fun h2 => ?_) (fun h2 => ?_)
    · refine Gx.skip ?_
      refine Gx.thenN ?_
      refine Gx.seq ?_
      refine Gx.block ?_
      refine Gx.seq ?_
      refine Gx.regionQ Try.mixed (by kernel_rfl) ?_
      refine Gq.val rfl rfl rfl (val_move rfl rfl) ?_
      refine Gq.val rfl rfl rfl (val_move rfl rfl) ?_
      obtain ⟨x3, hx3⟩ := get_of_lt (xs := xs) (k := k) (by omega)
      refine Gq.val rfl rfl rfl (val_ixa rfl Try.underlying23 Try.ty3 rfl rfl (j := k) (rfl) (reach_base ha hx3)) ?_
      refine Gq.val rfl rfl rfl (val_load rfl Try.ty3 rfl rfl (cell_base (i := 0) ha hx3 rfl)) ?_
      refine Gq.val rfl rfl rfl (val_move rfl rfl) ?_
      refine Gq.val rfl rfl rfl (val_move rfl rfl) ?_
      obtain ⟨x4, hx4⟩ := get_of_lt (xs := ys) (k := k) (by omega)
      refine Gq.val rfl rfl rfl (val_ixa rfl Try.underlying23 Try.ty3 rfl rfl (j := k) (rfl) (reach_base hb hx4)) ?_
      refine Gq.val rfl rfl rfl (val_load rfl Try.ty3 rfl rfl (cell_base (i := 0) hb hx4 rfl)) ?_
      refine Gq.val rfl rfl rfl (val_neq rfl rfl rfl) ?_
      refine Gq.done ?_
      refine Gx.thenN ?_
      refine Gx.dec rfl (fun h5 => ?_) (fun h5 => ?_)
      · refine Gx.seq ?_
        refine Gx.region ?_
        refine Gx.val rfl rfl rfl (val_assign rfl rfl) ?_
        refine Gx.done ?_
        refine Gx.thenN ?_
        refine Gx.ret ?_
        refine Gx.blkR ?_
        refine Gx.thenR ?_
        refine Gx.thenR ?_
        refine Gx.blkR ?_
        refine Gx.thenR ?_
        refine Gx.ret1 Try.results16 rfl ?_
        exact (congrArg Value.bool (decide_eq_false fun h => by subst h; have q := hx3.symm.trans hx4; cases q; omega)).symm
      · refine Gx.skip ?_
        refine Gx.blkN ?_
        refine Gx.thenN ?_
        refine Gx.region ?_
        refine Gx.val rfl rfl rfl (val_move rfl rfl) ?_
        refine Gx.val rfl rfl rfl (val_add rfl rfl rfl (r := ((k + 1 : Nat) : Int)) (w64 (by omega) (by omega))) ?_
        refine Gx.val rfl rfl rfl (val_assign rfl rfl) ?_
        refine Gx.done ?_
        refine Gx.thenN ?_
        exact Gx.round (k + 1) ⟨by first | omega | (dsimp only; omega), fun q hq => by rcases Nat.lt_or_eq_of_le (Nat.le_of_lt_succ hq) with h | rfl; (exact he q h); (rw [hx3, hx4]; exact congrArg some (by omega))⟩ (by first | omega | (dsimp only; omega)) ((.cons rfl (.cons rfl (.cons rfl .nil)))) rfl
    · refine Gx.exit ?_
      refine Gx.thenE ?_
      refine Gx.thenE ?_
      refine Gx.blkE ?_
      refine Gx.thenN ?_
      refine Gx.seq ?_
      refine Gx.region ?_
      refine Gx.val rfl rfl rfl (val_assign rfl rfl) ?_
      refine Gx.done ?_
      refine Gx.thenN ?_
      refine Gx.ret ?_
      refine Gx.ret1 Try.results16 rfl ?_
      exact (congrArg Value.bool (decide_eq_true (List.ext_getElem? fun q => by rcases Nat.lt_or_ge q k with h | h; (exact he q h); (rw [List.getElem?_eq_none (by omega), List.getElem?_eq_none (by omega)])))).symm

def leqB (xs ys : List Nat) : Bool := decide (xs.length = ys.length ∧ ∀ q, q < xs.length → xs.getD q 0 ≤ ys.getD q 0)
theorem leqB_iff {xs ys : List Nat} (h : xs.length = ys.length) : leqB xs ys = true ↔ LeC xs ys := by
  unfold leqB
  rw [decide_eq_true_iff]
  refine ⟨fun h1 q => ?_, fun h1 => ⟨h, fun q _ => h1 q⟩⟩
  rcases Nat.lt_or_ge q xs.length with h2 | h2
  · exact h1.2 q h2
  · rw [List.getD_eq_getElem?_getD, List.getElem?_eq_none h2]; exact Nat.zero_le _
theorem leq_any {W : World} {va vb : Value} {xs ys : List Nat} (ha : SlS FN 1 W va xs) (hb : SlS FN 1 W vb ys) : Calls Try.prog 14 #[va, vb] W fun e w' => e = .returned (.bool (leqB xs ys)) ∧ Below W.heap.size W w' := by
  have m1 := sls_bd ha
  have m2 := sls_bd hb
  refine calls_pure (Gx.enter (l := []) Try.func14 rfl Try.ntmps14 rfl (Sat.start W) ?_)
  refine Gx.know (m' := [(0, va), (1, vb)]) (.cons rfl (.cons rfl .nil)) ?_
  refine Gx.seq ?_
  refine Gx.region ?_
  refine Gx.val rfl rfl rfl (val_assign rfl rfl) ?_
  refine Gx.done ?_
  refine Gx.thenN ?_
  refine Gx.seq ?_
  refine Gx.seq ?_
  refine Gx.region ?_
  refine Gx.val rfl rfl rfl (val_move rfl rfl) ?_
  refine Gx.val rfl rfl rfl (val_len rfl Try.underlying23 rfl (len_base ha)) ?_
  refine Gx.val rfl rfl rfl (val_move rfl rfl) ?_
  refine Gx.val rfl rfl rfl (val_len rfl Try.underlying23 rfl (len_base hb)) ?_
  refine Gx.val rfl rfl rfl (val_neq rfl rfl rfl) ?_
  refine Gx.done ?_
  refine Gx.thenN ?_
  refine Gx.dec rfl (fun h1 => ?_) (fun h1 => ?_)
  · refine Gx.seq ?_
    refine Gx.region ?_
    refine Gx.val rfl rfl rfl (val_assign rfl rfl) ?_
    refine Gx.done ?_
    refine Gx.thenN ?_
    refine Gx.ret ?_
    refine Gx.thenR ?_
    refine Gx.ret1 Try.results14 rfl ?_
    exact (congrArg Value.bool (decide_eq_false fun h => by have := h.1; omega)).symm
  · refine Gx.skip ?_
    refine Gx.thenN ?_
    refine Gx.seq ?_
    refine Gx.seq ?_
    refine Gx.region ?_
    refine Gx.val rfl rfl rfl (val_assign rfl rfl) ?_
    refine Gx.done ?_
    refine Gx.thenN ?_
    refine Gx.block ?_
    refine Gx.loop (ι := Nat) (fun ξ => (ξ ≤ xs.length) ∧ (∀ q, q < ξ → xs.getD q 0 ≤ ys.getD q 0)) (fun ξ => [(0, va), (1, vb), (5, .int .i64 ((ξ : Nat) : Int))]) (fun ξ => []) (fun ξ => xs.length - ξ) 0 ⟨by first | omega | (dsimp only; omega), by omega⟩ ((.cons rfl (.cons rfl (.cons rfl .nil)))) rfl ?_
    rintro k ⟨hk, hn⟩
    refine Gx.know (m' := [(0, va), (1, vb), (5, .int .i64 ((k : Nat) : Int))]) (.cons rfl (.cons rfl (.cons rfl .nil))) (Gx.norm (l' := []) rfl ?_)
    refine Gx.seq ?_
    refine Gx.seq ?_
    refine Gx.region ?_
    refine Gx.val rfl rfl rfl (val_move rfl rfl) ?_
    refine Gx.val rfl rfl rfl (val_move rfl rfl) ?_
    refine Gx.val rfl rfl rfl (val_len rfl Try.underlying23 rfl (len_base ha)) ?_
    refine Gx.val rfl rfl rfl (val_lss rfl rfl rfl) ?_
    refine Gx.done ?_
    refine Gx.thenN ?_
    refine Gx.dec rfl (fun h2 => ?_) (fun h2 => ?_)
    · refine Gx.skip ?_
      refine Gx.thenN ?_
      refine Gx.seq ?_
      refine Gx.block ?_
      refine Gx.seq ?_
      refine Gx.regionQ Try.mixed (by kernel_rfl) ?_
      refine Gq.val rfl rfl rfl (val_move rfl rfl) ?_
      refine Gq.val rfl rfl rfl (val_move rfl rfl) ?_
      obtain ⟨x3, hx3⟩ := get_of_lt (xs := xs) (k := k) (by omega)
      refine Gq.val rfl rfl rfl (val_ixa rfl Try.underlying23 Try.ty3 rfl rfl (j := k) (rfl) (reach_base ha hx3)) ?_
      refine Gq.val rfl rfl rfl (val_load rfl Try.ty3 rfl rfl (cell_base (i := 0) ha hx3 rfl)) ?_
      refine Gq.val rfl rfl rfl (val_move rfl rfl) ?_
      refine Gq.val rfl rfl rfl (val_move rfl rfl) ?_
      obtain ⟨x4, hx4⟩ := get_of_lt (xs := ys) (k := k) (by omega)
      refine Gq.val rfl rfl rfl (val_ixa rfl Try.underlying23 Try.ty3 rfl rfl (j := k) (rfl) (reach_base hb hx4)) ?_
      refine Gq.val rfl rfl rfl (val_load rfl Try.ty3 rfl rfl (cell_base (i := 0) hb hx4 rfl)) ?_
      refine Gq.val rfl rfl rfl (val_gtr rfl rfl rfl) ?_
      refine Gq.done ?_
      refine Gx.thenN ?_
      refine Gx.dec rfl (fun h5 => ?_) (fun h5 => ?_)
      · refine Gx.seq ?_
        refine Gx.region ?_
        refine Gx.val rfl rfl rfl (val_assign rfl rfl) ?_
        refine Gx.done ?_
        refine Gx.thenN ?_
        refine Gx.ret ?_
        refine Gx.blkR ?_
        refine Gx.thenR ?_
        refine Gx.thenR ?_
        refine Gx.blkR ?_
        refine Gx.thenR ?_
        refine Gx.ret1 Try.results14 rfl ?_
        exact (congrArg Value.bool (decide_eq_false fun h => by have q := h.2 k (by omega); rw [getD_of hx3, getD_of hx4] at q; omega)).symm
      · refine Gx.skip ?_
        refine Gx.blkN ?_
        refine Gx.thenN ?_
        refine Gx.region ?_
        refine Gx.val rfl rfl rfl (val_move rfl rfl) ?_
        refine Gx.val rfl rfl rfl (val_add rfl rfl rfl (r := ((k + 1 : Nat) : Int)) (w64 (by omega) (by omega))) ?_
        refine Gx.val rfl rfl rfl (val_assign rfl rfl) ?_
        refine Gx.done ?_
        refine Gx.thenN ?_
        exact Gx.round (k + 1) ⟨by first | omega | (dsimp only; omega), fun q hq => by rcases Nat.lt_or_eq_of_le (Nat.le_of_lt_succ hq) with h | h; (exact hn q h); (subst h; rw [getD_of hx3, getD_of hx4]; omega)⟩ (by first | omega | (dsimp only; omega)) ((.cons rfl (.cons rfl (.cons rfl .nil)))) rfl
    · refine Gx.exit ?_
      refine Gx.thenE ?_
      refine Gx.thenE ?_
      refine Gx.blkE ?_
      refine Gx.thenN ?_
      refine Gx.seq ?_
      refine Gx.region ?_
      refine Gx.val rfl rfl rfl (val_assign rfl rfl) ?_
      refine Gx.done ?_
      refine Gx.thenN ?_
      refine Gx.ret ?_
      refine Gx.ret1 Try.results14 rfl ?_
      exact (congrArg Value.bool (decide_eq_true ⟨by omega, fun q hq => hn q (by omega)⟩)).symm

theorem cutcheck_any {W : World} {n : Nat} {l : List En} {c : List Int} {hv cv : Value} (hok : OkC n l) (hs : SlS FEn 3 W hv l) (hc : SlS FZ 1 W cv c) :
    Calls Try.prog 20 #[.int .i64 ((n : Nat) : Int), hv, cv] W fun e w' => ∃ v, e = .returned v ∧ (∃ z : Int, v = .int .i64 z ∧ (z = 0 ↔ CutZ n l c)) ∧ Below W.heap.size W w' := by
  have m1 := sls_bd hc
  have hfew := hok.few
  have h1n := hok.low
  have h6n := hok.high
  refine calls_rel (R := fun v => ∃ z : Int, v = .int .i64 z ∧ (z = 0 ↔ CutZ n l c)) (Gx.enter (l := []) Try.func20 rfl Try.ntmps20 rfl (Sat.start W) ?_)
  refine Gx.know (m' := [(0, .int .i64 ((n : Nat) : Int)), (1, hv), (2, cv)]) (.cons rfl (.cons rfl (.cons rfl .nil))) ?_
  refine Gx.seq ?_
  refine Gx.region ?_
  refine Gx.val rfl rfl rfl (val_assign rfl rfl) ?_
  refine Gx.done ?_
  refine Gx.thenN ?_
  refine Gx.seq ?_
  refine Gx.seq ?_
  refine Gx.region ?_
  refine Gx.val rfl rfl rfl (val_move rfl rfl) ?_
  refine Gx.val rfl rfl rfl (val_len rfl Try.underlying23 rfl (len_base hc)) ?_
  refine Gx.val rfl rfl rfl (val_move rfl rfl) ?_
  refine Gx.val rfl rfl rfl (val_neq rfl rfl rfl) ?_
  refine Gx.done ?_
  refine Gx.thenN ?_
  refine Gx.dec rfl (fun h1 => ?_) (fun h1 => ?_)
  · refine Gx.seq ?_
    refine Gx.region ?_
    refine Gx.val rfl rfl rfl (val_assign rfl rfl) ?_
    refine Gx.done ?_
    refine Gx.thenN ?_
    refine Gx.ret ?_
    refine Gx.thenR ?_
    refine Gx.ret1 Try.results20 rfl ?_
    exact ⟨2, rfl, fun h => by omega, fun h => by have := h.len; omega⟩
  · refine Gx.skip ?_
    refine Gx.thenN ?_
    refine Gx.seq ?_
    refine Gx.seq ?_
    refine Gx.region ?_
    refine Gx.val rfl rfl rfl (val_assign rfl rfl) ?_
    refine Gx.done ?_
    refine Gx.thenN ?_
    refine Gx.block ?_
    refine Gx.loop (ι := Nat) (fun ξ => (ξ ≤ n) ∧ (∀ (q : Nat) (z : Int), q < ξ → c[q]? = some z → 0 ≤ z ∧ z ≤ cntL l q l.length)) (fun ξ => [(0, .int .i64 ((n : Nat) : Int)), (1, hv), (2, cv), (7, .int .i64 ((ξ : Nat) : Int))]) (fun ξ => []) (fun ξ => n - ξ) 0 ⟨by first | omega | (dsimp only; omega), fun q z h => by omega⟩ ((.cons rfl (.cons rfl (.cons rfl (.cons rfl .nil))))) rfl ?_
    rintro p ⟨hp, hcz⟩
    refine Gx.know (m' := [(0, .int .i64 ((n : Nat) : Int)), (1, hv), (2, cv), (7, .int .i64 ((p : Nat) : Int))]) (.cons rfl (.cons rfl (.cons rfl (.cons rfl .nil)))) (Gx.norm (l' := []) rfl ?_)
    refine Gx.seq ?_
    refine Gx.seq ?_
    refine Gx.region ?_
    refine Gx.val rfl rfl rfl (val_move rfl rfl) ?_
    refine Gx.val rfl rfl rfl (val_move rfl rfl) ?_
    refine Gx.val rfl rfl rfl (val_lss rfl rfl rfl) ?_
    refine Gx.done ?_
    refine Gx.thenN ?_
    refine Gx.dec rfl (fun h2 => ?_) (fun h2 => ?_)
    · refine Gx.skip ?_
      refine Gx.thenN ?_
      refine Gx.seq ?_
      refine Gx.block ?_
      refine Gx.seq ?_
      refine Gx.region ?_
      refine Gx.val rfl rfl rfl (val_assign rfl rfl) ?_
      refine Gx.done ?_
      refine Gx.thenN ?_
      refine Gx.seq ?_
      refine Gx.seq ?_
      refine Gx.region ?_
      refine Gx.val rfl rfl rfl (val_move rfl rfl) ?_
      refine Gx.val rfl rfl rfl (val_len rfl Try.underlying22 rfl (len_base hs)) ?_
      refine Gx.val rfl rfl rfl (val_move rfl rfl) ?_
      refine Gx.done ?_
      refine Gx.thenN ?_
      refine Gx.block ?_
      refine Gx.loop (ι := Nat × Nat) (fun ξ => (ξ.1 ≤ l.length) ∧ (ξ.2 = cntL l p ξ.1)) (fun ξ => [(0, .int .i64 ((n : Nat) : Int)), (1, hv), (2, cv), (7, .int .i64 ((p : Nat) : Int)), (8, .int .i64 ((ξ.2 : Nat) : Int)), (20, hv), (21, .int .i64 ((l.length : Nat) : Int)), (22, .int .i64 ((ξ.1 : Nat) : Int))]) (fun ξ => []) (fun ξ => l.length - ξ.1) (0, 0) ⟨by first | omega | (dsimp only; omega), by simp [cntL]⟩ ((.cons rfl (.cons rfl (.cons rfl (.cons rfl (.cons rfl (.cons rfl (.cons rfl (.cons rfl .nil))))))))) rfl ?_
      rintro ⟨k, m⟩ ⟨hk, hm⟩
      dsimp only at hk hm
      refine Gx.know (m' := [(0, .int .i64 ((n : Nat) : Int)), (1, hv), (2, cv), (7, .int .i64 ((p : Nat) : Int)), (8, .int .i64 ((m : Nat) : Int)), (20, hv), (21, .int .i64 ((l.length : Nat) : Int)), (22, .int .i64 ((k : Nat) : Int))]) (.cons rfl (.cons rfl (.cons rfl (.cons rfl (.cons rfl (.cons rfl (.cons rfl (.cons rfl .nil)))))))) (Gx.norm (l' := []) rfl ?_)
      have hcm := cnt_le l p k
      refine Gx.seq ?_
      refine Gx.region ?_
      refine Gx.val rfl rfl rfl (val_lss rfl rfl rfl) ?_
      refine Gx.done ?_
      refine Gx.thenN ?_
      refine Gx.seq ?_
      refine Gx.dec rfl (fun h3 => ?_) (fun h3 => ?_)
      · refine Gx.skip ?_
        refine Gx.thenN ?_
        refine Gx.seq ?_
        refine Gx.block ?_
        refine Gx.seq ?_
        refine Gx.region ?_
        obtain ⟨x4, hx4⟩ := get_of_lt (xs := l) (k := k) (by omega)
        refine Gx.val rfl rfl rfl (val_ixa rfl Try.underlying22 Try.ty36 rfl rfl (j := k) (rfl) (reach_base hs hx4)) ?_
        refine Gx.val rfl rfl rfl (Val.cast (val_loadA rfl Try.ty36 rfl rfl rfl (cells_base hs hx4)) (v' := .agg #[.int .i64 x4.kind, .int .i64 ((x4.who : Nat) : Int), .int .i64 x4.src]) rfl) ?_
        refine Gx.eff rfl rfl rfl (eff_alloc rfl Try.ty36 (vs := [.int .i64 0, .int .i64 0, .int .i64 0]) rfl) ?_
        rintro _ _ ⟨b5, rfl, rfl⟩
        refine Gx.eff0 rfl rfl (eff_store rfl Try.ty36 rfl rfl (us := [.int .i64 x4.kind, .int .i64 ((x4.who : Nat) : Int), .int .i64 x4.src]) rfl rfl rfl (k := 0) rfl (rfl) (vs' := [.int .i64 x4.kind, .int .i64 ((x4.who : Nat) : Int), .int .i64 x4.src]) (rfl) (l' := [Hp.rec_ b5 [.int .i64 x4.kind, .int .i64 ((x4.who : Nat) : Int), .int .i64 x4.src]]) rfl) ?_
        rintro _ _ rfl
        refine Gx.done ?_
        refine Gx.thenN ?_
        refine Gx.seq ?_
        refine Gx.region ?_
        refine Gx.val rfl rfl rfl (Val.cast (val_fieldAddr rfl Try.underlying36 rfl Try.ty3 rfl rfl) (v' := ptr b5 1) rfl) ?_
        refine Gx.val rfl rfl rfl (val_load rfl Try.ty3 rfl rfl (cell_rec (k := 0) rfl rfl)) ?_
        refine Gx.val rfl rfl rfl (val_move rfl rfl) ?_
        refine Gx.val rfl rfl rfl (val_eql rfl rfl rfl) ?_
        refine Gx.done ?_
        refine Gx.thenN ?_
        refine Gx.dec rfl (fun h6 => ?_) (fun h6 => ?_)
        · refine Gx.region ?_
          refine Gx.val rfl rfl rfl (val_move rfl rfl) ?_
          refine Gx.val rfl rfl rfl (val_add rfl rfl rfl (r := ((m + 1 : Nat) : Int)) (w64 (by omega) (by omega))) ?_
          refine Gx.val rfl rfl rfl (val_assign rfl rfl) ?_
          refine Gx.done ?_
          refine Gx.blkN ?_
          refine Gx.thenN ?_
          refine Gx.region ?_
          refine Gx.val rfl rfl rfl (val_add rfl rfl rfl (r := ((k + 1 : Nat) : Int)) (w64 (by omega) (by omega))) ?_
          refine Gx.val rfl rfl rfl (val_move rfl rfl) ?_
          refine Gx.done ?_
          refine Gx.thenN ?_
          refine Gx.drop 0 rfl ?_
          exact Gx.round (k + 1, m + 1) ⟨by first | omega | (dsimp only; omega), by rw [cnt_succ hx4]; by_cases q : x4.who = p <;> simp only [q, if_true, if_false] <;> omega⟩ (by first | omega | (dsimp only; omega)) ((.cons rfl (.cons rfl (.cons rfl (.cons rfl (.cons rfl (.cons rfl (.cons rfl (.cons rfl .nil))))))))) rfl
        · refine Gx.skip ?_
          refine Gx.blkN ?_
          refine Gx.thenN ?_
          refine Gx.region ?_
          refine Gx.val rfl rfl rfl (val_add rfl rfl rfl (r := ((k + 1 : Nat) : Int)) (w64 (by omega) (by omega))) ?_
          refine Gx.val rfl rfl rfl (val_move rfl rfl) ?_
          refine Gx.done ?_
          refine Gx.thenN ?_
          refine Gx.drop 0 rfl ?_
          exact Gx.round (k + 1, m) ⟨by first | omega | (dsimp only; omega), by rw [cnt_succ hx4]; by_cases q : x4.who = p <;> simp only [q, if_true, if_false] <;> omega⟩ (by first | omega | (dsimp only; omega)) ((.cons rfl (.cons rfl (.cons rfl (.cons rfl (.cons rfl (.cons rfl (.cons rfl (.cons rfl .nil))))))))) rfl
      · refine Gx.exit ?_
        refine Gx.thenE ?_
        refine Gx.thenE ?_
        refine Gx.blkE ?_
        refine Gx.thenN ?_
        refine Gx.seq ?_
        have hkl : k = l.length := by omega
        have hclen : c.length = n := by omega
        refine Gx.region ?_
        refine Gx.val rfl rfl rfl (val_move rfl rfl) ?_
        refine Gx.val rfl rfl rfl (val_move rfl rfl) ?_
        obtain ⟨x7, hx7⟩ := get_of_lt (xs := c) (k := p) (by omega)
        refine Gx.val rfl rfl rfl (val_ixa rfl Try.underlying23 Try.ty3 rfl rfl (j := p) (rfl) (reach_base hc hx7)) ?_
        refine Gx.val rfl rfl rfl (val_load rfl Try.ty3 rfl rfl (cell_base (i := 0) hc hx7 rfl)) ?_
        refine Gx.val rfl rfl rfl (val_lss rfl rfl rfl) ?_
        refine Gx.val rfl rfl rfl (val_move rfl rfl) ?_
        refine Gx.cases (t := 38) rfl (fun h8 => ?_) (fun h8 => ?_)
        · refine Gx.skipg rfl rfl rfl rfl rfl rfl ?_
          refine Gx.skipg rfl rfl rfl rfl rfl rfl ?_
          refine Gx.skipg rfl rfl rfl rfl rfl rfl ?_
          refine Gx.skipg rfl rfl rfl rfl rfl rfl ?_
          refine Gx.skipg rfl rfl rfl rfl rfl rfl ?_
          refine Gx.skipg rfl rfl rfl rfl rfl rfl ?_
          refine Gx.val rfl rfl rfl (val_pickT rfl rfl rfl) ?_
          refine Gx.done ?_
          refine Gx.thenN ?_
          refine Gx.t rfl ?_
          refine Gx.seq ?_
          refine Gx.region ?_
          refine Gx.val rfl rfl rfl (val_assign rfl rfl) ?_
          refine Gx.done ?_
          refine Gx.thenN ?_
          refine Gx.ret ?_
          refine Gx.blkR ?_
          refine Gx.thenR ?_
          refine Gx.thenR ?_
          refine Gx.blkR ?_
          refine Gx.thenR ?_
          refine Gx.ret1 Try.results20 rfl ?_
          refine ⟨2, rfl, fun h => by omega, fun h => ?_⟩
          have := h.le p _ hx7
          subst hkl; omega
        · refine Gx.valg rfl rfl rfl rfl rfl (val_move rfl rfl) ?_
          refine Gx.valg rfl rfl rfl rfl rfl (val_move rfl rfl) ?_
          refine Gx.valg rfl rfl rfl rfl rfl (val_ixa rfl Try.underlying23 Try.ty3 rfl rfl (j := p) (rfl) (reach_base hc hx7)) ?_
          refine Gx.valg rfl rfl rfl rfl rfl (val_load rfl Try.ty3 rfl rfl (cell_base (i := 0) hc hx7 rfl)) ?_
          refine Gx.valg rfl rfl rfl rfl rfl (val_move rfl rfl) ?_
          refine Gx.valg rfl rfl rfl rfl rfl (val_gtr rfl rfl rfl) ?_
          refine Gx.val rfl rfl rfl (val_pickF rfl rfl rfl) ?_
          refine Gx.done ?_
          refine Gx.thenN ?_
          refine Gx.dec rfl (fun h9 => ?_) (fun h9 => ?_)
          · refine Gx.seq ?_
            refine Gx.region ?_
            refine Gx.val rfl rfl rfl (val_assign rfl rfl) ?_
            refine Gx.done ?_
            refine Gx.thenN ?_
            refine Gx.ret ?_
            refine Gx.blkR ?_
            refine Gx.thenR ?_
            refine Gx.thenR ?_
            refine Gx.blkR ?_
            refine Gx.thenR ?_
            refine Gx.ret1 Try.results20 rfl ?_
            refine ⟨2, rfl, fun h => by omega, fun h => ?_⟩
            have := h.le p _ hx7
            subst hkl; omega
          · refine Gx.skip ?_
            refine Gx.blkN ?_
            refine Gx.thenN ?_
            refine Gx.region ?_
            refine Gx.val rfl rfl rfl (val_move rfl rfl) ?_
            refine Gx.val rfl rfl rfl (val_add rfl rfl rfl (r := ((p + 1 : Nat) : Int)) (w64 (by omega) (by omega))) ?_
            refine Gx.val rfl rfl rfl (val_assign rfl rfl) ?_
            refine Gx.done ?_
            refine Gx.thenN ?_
            exact Gx.round (p + 1) ⟨by first | omega | (dsimp only; omega), fun q z hq hz => by rcases Nat.lt_or_eq_of_le (Nat.le_of_lt_succ hq) with hq | rfl; (exact hcz q z hq hz); (cases hx7.symm.trans hz; rw [hkl] at hm; omega)⟩ (by first | omega | (dsimp only; omega)) ((.cons rfl (.cons rfl (.cons rfl (.cons rfl .nil))))) rfl
    · refine Gx.exit ?_
      refine Gx.thenE ?_
      refine Gx.thenE ?_
      refine Gx.blkE ?_
      refine Gx.thenN ?_
      refine Gx.seq ?_
      refine Gx.region ?_
      refine Gx.val rfl rfl rfl (val_assign rfl rfl) ?_
      refine Gx.done ?_
      refine Gx.thenN ?_
      refine Gx.ret ?_
      refine Gx.ret1 Try.results20 rfl ?_
      exact ⟨0, rfl, fun _ => ⟨by omega, fun q z hz => hcz q z (by have := (List.getElem?_eq_some_iff.1 hz).1; omega) hz⟩, fun _ => rfl⟩

theorem cut_any {W : World} {n : Nat} {l : List En} {c : List Int} {hv cv : Value} (hok : OkC n l) (hs : SlS FEn 3 W hv l) (hc : SlS FZ 1 W cv c) :
    Calls Try.prog 9 #[.int .i64 ((n : Nat) : Int), hv, cv] W fun e w' => ∃ v, e = .returned v ∧ (∃ b : Bool, v = .bool b ∧ (b = true ↔ CutZ n l c)) ∧ Below W.heap.size W w' := by
  refine calls_rel (R := fun v => ∃ b : Bool, v = .bool b ∧ (b = true ↔ CutZ n l c)) (Gx.enter (l := []) Try.func9 rfl Try.ntmps9 rfl (Sat.start W) ?_)
  refine Gx.know (m' := [(0, .int .i64 ((n : Nat) : Int)), (1, hv), (2, cv)]) (.cons rfl (.cons rfl (.cons rfl .nil))) ?_
  refine Gx.seq ?_
  refine Gx.region ?_
  refine Gx.val rfl rfl rfl (val_assign rfl rfl) ?_
  refine Gx.done ?_
  refine Gx.thenN ?_
  refine Gx.seq ?_
  refine Gx.region ?_
  refine Gx.val rfl rfl rfl (val_move rfl rfl) ?_
  refine Gx.val rfl rfl rfl (val_move rfl rfl) ?_
  refine Gx.val rfl rfl rfl (val_move rfl rfl) ?_
  refine Gx.eff rfl rfl rfl (eff_callE (vs := [.int .i64 ((n : Nat) : Int), hv, cv]) rfl Try.fn20 rfl (R := fun v => ∃ z : Int, v = .int .i64 z ∧ (z = 0 ↔ CutZ n l c)) (fun w H => cutcheck_any hok (hs.below H.below) (hc.below H.below))) ?_
  rintro _ _ ⟨⟨z, rfl, hz⟩, rfl⟩
  refine Gx.val rfl rfl rfl (val_eql rfl rfl rfl) ?_
  refine Gx.val rfl rfl rfl (val_assign rfl rfl) ?_
  refine Gx.done ?_
  refine Gx.thenN ?_
  refine Gx.ret ?_
  refine Gx.ret1 Try.results9 rfl ?_
  exact ⟨_, rfl, by rw [decide_eq_true_iff]; exact hz⟩

abbrev ng (g : Bool) (x y : Nat) : Nat := if decide (x < y) = g then y else x
def near (g : Bool) (a b : List Nat) : List Nat := List.zipWith (ng g) a b
theorem near_succ {g : Bool} {a b : List Nat} {k x y : Nat} (ha : a[k]? = some x) (hb : b[k]? = some y) : near g (a.take (k + 1)) (b.take (k + 1)) = near g (a.take k) (b.take k) ++ [ng g x y] := by
  unfold near
  have h1 := (List.getElem?_eq_some_iff.1 ha).1
  have h2 := (List.getElem?_eq_some_iff.1 hb).1
  rw [take_of ha, take_of hb, List.zipWith_append (by rw [List.length_take, List.length_take]; omega)]; rfl
theorem near_any {W : World} {va vb : Value} {a b : List Nat} {g : Bool} (ha : SlS FN 1 W va a) (hb : SlS FN 1 W vb b) (h6 : a.length ≤ 6) (hab : a.length = b.length) :
    Calls Try.prog 11 #[va, vb, .bool g] W (Ret W fun v l9 => ∃ u, v = u ∧ l9 = [Hp.own FN 1 u (near g a b)] ∧ IsS u) := by
  refine Gx.enter (l := []) Try.func11 rfl Try.ntmps11 rfl (Sat.start W) ?_
  refine Gx.know (m' := [(0, va), (1, vb), (2, .bool g)]) (.cons rfl (.cons rfl (.cons rfl .nil))) ?_
  refine Gx.seq ?_
  refine Gx.region ?_
  refine Gx.val rfl rfl rfl (val_assign rfl rfl) ?_
  refine Gx.done ?_
  refine Gx.thenN ?_
  refine Gx.seq ?_
  refine Gx.region ?_
  refine Gx.val rfl rfl rfl (val_assign rfl rfl) ?_
  refine Gx.done ?_
  refine Gx.thenN ?_
  refine Gx.seq ?_
  refine Gx.seq ?_
  refine Gx.ownNil FN 1 ?_
  refine Gx.norm (l' := [Hp.own FN 1 (.slice none 0 0) (near g (a.take 0) (b.take 0))]) (by simp [near] <;> rfl) ?_
  refine Gx.region ?_
  refine Gx.val rfl rfl rfl (val_assign rfl rfl) ?_
  refine Gx.done ?_
  refine Gx.thenN ?_
  refine Gx.block ?_
  refine Gx.loop (ι := Nat × Value) (fun ξ => (ξ.1 ≤ a.length) ∧ (IsS ξ.2)) (fun ξ => [(0, va), (1, vb), (2, .bool g), (7, ξ.2), (8, .int .i64 ((ξ.1 : Nat) : Int))]) (fun ξ => [Hp.own FN 1 ξ.2 (near g (a.take ξ.1) (b.take ξ.1))]) (fun ξ => a.length - ξ.1) (0, (.slice none 0 0)) ⟨by first | omega | (dsimp only; omega), ⟨none, 0, 0, rfl⟩⟩ ((.cons rfl (.cons rfl (.cons rfl (.cons rfl (.cons rfl .nil)))))) rfl ?_
  rintro ⟨k, lv⟩ ⟨hk, hil⟩
  dsimp only at hk hil
  refine Gx.know (m' := [(0, va), (1, vb), (2, .bool g), (7, lv), (8, .int .i64 ((k : Nat) : Int))]) (.cons rfl (.cons rfl (.cons rfl (.cons rfl (.cons rfl .nil))))) (Gx.norm (l' := [Hp.own FN 1 lv (near g (a.take k) (b.take k))]) rfl ?_)
  have hnl : (near g (a.take k) (b.take k)).length ≤ 6 := by unfold near; rw [List.length_zipWith, List.length_take]; omega
  refine Gx.seq ?_
  refine Gx.seq ?_
  refine Gx.region ?_
  refine Gx.val rfl rfl rfl (val_move rfl rfl) ?_
  refine Gx.val rfl rfl rfl (val_move rfl rfl) ?_
  refine Gx.val rfl rfl rfl (val_len rfl Try.underlying23 rfl (len_base ha)) ?_
  refine Gx.val rfl rfl rfl (val_lss rfl rfl rfl) ?_
  refine Gx.done ?_
  refine Gx.thenN ?_
  refine Gx.dec rfl (fun h1 => ?_) (fun h1 => ?_)
  · refine Gx.skip ?_
    refine Gx.thenN ?_
    refine Gx.seq ?_
    refine Gx.block ?_
    refine Gx.seq ?_
    refine Gx.region ?_
    refine Gx.val rfl rfl rfl (val_move rfl rfl) ?_
    refine Gx.val rfl rfl rfl (val_move rfl rfl) ?_
    obtain ⟨x2, hx2⟩ := get_of_lt (xs := a) (k := k) (by omega)
    refine Gx.val rfl rfl rfl (val_ixa rfl Try.underlying23 Try.ty3 rfl rfl (j := k) (rfl) (reach_base ha hx2)) ?_
    refine Gx.val rfl rfl rfl (val_load rfl Try.ty3 rfl rfl (cell_base (i := 0) ha hx2 rfl)) ?_
    refine Gx.val rfl rfl rfl (val_assign rfl rfl) ?_
    refine Gx.done ?_
    refine Gx.thenN ?_
    refine Gx.seq ?_
    refine Gx.seq ?_
    refine Gx.region ?_
    refine Gx.val rfl rfl rfl (val_move rfl rfl) ?_
    refine Gx.val rfl rfl rfl (val_move rfl rfl) ?_
    obtain ⟨x3, hx3⟩ := get_of_lt (xs := b) (k := k) (by omega)
    refine Gx.val rfl rfl rfl (val_ixa rfl Try.underlying23 Try.ty3 rfl rfl (j := k) (rfl) (reach_base hb hx3)) ?_
    refine Gx.val rfl rfl rfl (val_load rfl Try.ty3 rfl rfl (cell_base (i := 0) hb hx3 rfl)) ?_
    refine Gx.val rfl rfl rfl (val_move rfl rfl) ?_
    refine Gx.val rfl rfl rfl (val_gtr rfl rfl rfl) ?_
    refine Gx.val rfl rfl rfl (val_move rfl rfl) ?_
    refine Gx.val rfl rfl rfl (val_eqlB Try.underlying4 rfl rfl rfl) ?_
    refine Gx.done ?_
    refine Gx.thenN ?_
    refine Gx.bool rfl (fun h4 => ?_) (fun h4 => ?_)
    · refine Gx.region ?_
      refine Gx.val rfl rfl rfl (val_move rfl rfl) ?_
      refine Gx.val rfl rfl rfl (val_move rfl rfl) ?_
      refine Gx.val rfl rfl rfl (val_ixa rfl Try.underlying23 Try.ty3 rfl rfl (j := k) (rfl) (reach_base hb hx3)) ?_
      refine Gx.val rfl rfl rfl (val_load rfl Try.ty3 rfl rfl (cell_base (i := 0) hb hx3 rfl)) ?_
      refine Gx.val rfl rfl rfl (val_assign rfl rfl) ?_
      refine Gx.done ?_
      refine Gx.thenN ?_
      have hcnd := h4
      refine Gx.region ?_
      refine Gx.val rfl rfl rfl (val_move rfl rfl) ?_
      refine Gx.val rfl rfl rfl (val_move rfl rfl) ?_
      refine Gx.eff rfl rfl rfl (eff_buildSlice rfl (qs := [(0, .int .i64 ((x3 : Nat) : Int))]) rfl rfl (cs := #[.int .i64 ((x3 : Nat) : Int)]) (vs := [.int .i64 ((x3 : Nat) : Int)]) (E := 3) rfl (fun w => by first | (go_simp; done) | (go_simp; rfl))) ?_
      rintro _ _ ⟨b5, rfl, rfl⟩
      refine Gx.eff rfl rfl rfl (eff_push (r := x3) rfl Try.eN FN_len FN_one rfl rfl (k := 0) rfl rfl (k' := 0) rfl (by omega) (by omega)) ?_
      rintro v6 _ ⟨hiv6, rfl⟩
      refine Gx.norm (l' := [Hp.own FN 1 v6 ((near g (a.take k) (b.take k)) ++ [x3])]) rfl ?_
      refine Gx.val rfl rfl rfl (val_assign rfl rfl) ?_
      refine Gx.done ?_
      refine Gx.blkN ?_
      refine Gx.thenN ?_
      refine Gx.region ?_
      refine Gx.val rfl rfl rfl (val_move rfl rfl) ?_
      refine Gx.val rfl rfl rfl (val_add rfl rfl rfl (r := ((k + 1 : Nat) : Int)) (w64 (by omega) (by omega))) ?_
      refine Gx.val rfl rfl rfl (val_assign rfl rfl) ?_
      refine Gx.done ?_
      refine Gx.thenN ?_
      refine Gx.norm (l' := [Hp.own FN 1 v6 (near g (a.take (k + 1)) (b.take (k + 1)))]) (by rw [near_succ hx2 hx3]; first | (rw [show ng g x2 x3 = x3 from if_pos (by simpa using hcnd)] <;> rfl) | (rw [show ng g x2 x3 = x2 from if_neg (by simpa using hcnd)] <;> rfl)) ?_
      exact Gx.round (k + 1, v6) ⟨by first | omega | (dsimp only; omega), hiv6⟩ (by first | omega | (dsimp only; omega)) ((.cons rfl (.cons rfl (.cons rfl (.cons rfl (.cons rfl .nil)))))) rfl
    · refine Gx.skip ?_
      refine Gx.thenN ?_
      have hcnd := h4
      refine Gx.region ?_
      refine Gx.val rfl rfl rfl (val_move rfl rfl) ?_
      refine Gx.val rfl rfl rfl (val_move rfl rfl) ?_
      refine Gx.eff rfl rfl rfl (eff_buildSlice rfl (qs := [(0, .int .i64 ((x2 : Nat) : Int))]) rfl rfl (cs := #[.int .i64 ((x2 : Nat) : Int)]) (vs := [.int .i64 ((x2 : Nat) : Int)]) (E := 3) rfl (fun w => by first | (go_simp; done) | (go_simp; rfl))) ?_
      rintro _ _ ⟨b7, rfl, rfl⟩
      refine Gx.eff rfl rfl rfl (eff_push (r := x2) rfl Try.eN FN_len FN_one rfl rfl (k := 0) rfl rfl (k' := 0) rfl (by omega) (by omega)) ?_
      rintro v8 _ ⟨hiv8, rfl⟩
      refine Gx.norm (l' := [Hp.own FN 1 v8 ((near g (a.take k) (b.take k)) ++ [x2])]) rfl ?_
      refine Gx.val rfl rfl rfl (val_assign rfl rfl) ?_
      refine Gx.done ?_
      refine Gx.blkN ?_
      refine Gx.thenN ?_
      refine Gx.region ?_
      refine Gx.val rfl rfl rfl (val_move rfl rfl) ?_
      refine Gx.val rfl rfl rfl (val_add rfl rfl rfl (r := ((k + 1 : Nat) : Int)) (w64 (by omega) (by omega))) ?_
      refine Gx.val rfl rfl rfl (val_assign rfl rfl) ?_
      refine Gx.done ?_
      refine Gx.thenN ?_
      refine Gx.norm (l' := [Hp.own FN 1 v8 (near g (a.take (k + 1)) (b.take (k + 1)))]) (by rw [near_succ hx2 hx3]; first | (rw [show ng g x2 x3 = x3 from if_pos (by simpa using hcnd)] <;> rfl) | (rw [show ng g x2 x3 = x2 from if_neg (by simpa using hcnd)] <;> rfl)) ?_
      exact Gx.round (k + 1, v8) ⟨by first | omega | (dsimp only; omega), hiv8⟩ (by first | omega | (dsimp only; omega)) ((.cons rfl (.cons rfl (.cons rfl (.cons rfl (.cons rfl .nil)))))) rfl
  · refine Gx.exit ?_
    refine Gx.thenE ?_
    refine Gx.thenE ?_
    refine Gx.blkE ?_
    refine Gx.thenN ?_
    refine Gx.seq ?_
    refine Gx.region ?_
    refine Gx.val rfl rfl rfl (val_move rfl rfl) ?_
    refine Gx.val rfl rfl rfl (val_assign rfl rfl) ?_
    refine Gx.done ?_
    refine Gx.thenN ?_
    refine Gx.ret ?_
    obtain rfl : k = a.length := by omega
    refine Gx.norm (l' := [Hp.own FN 1 lv (near g a b)]) (by rw [List.take_length, List.take_of_length_le (by omega)] <;> rfl) ?_
    refine Gx.ret1 Try.results11 rfl ?_
    exact ⟨lv, rfl, rfl, hil⟩

end Go.Proofs.Ytffnjojdjbdfcaa
