/- The laws' small functions. The walks. No condition. -/
import Derived.Test.YtplcflifofomjaaA4
import Derived.Test.YtplcflifofomjaaM1
namespace Go.Proofs.Ytplcflifofomjaa
open Go.RowKit
set_option linter.unusedVariables false
set_option linter.unusedSimpArgs false
set_option maxRecDepth 100000

def posN : List Nat → Nat → Option Nat
  | [], _ => none
  | x :: l, y => if x = y then some 0 else (posN l y).map (· + 1)
def posI (xs : List Nat) (y : Nat) : Int := match posN xs y with
  | some k => (k : Int)
  | none => -1
theorem posN_of : ∀ {xs : List Nat} {k y : Nat}, xs[k]? = some y → (∀ q, q < k → xs[q]? ≠ some y) → posN xs y = some k
  | [], k, y, h, _ => by simp at h
  | x :: l, 0, y, h, _ => by simp at h; subst h; simp [posN]
  | x :: l, k + 1, y, h, hf => by
    have h0 := hf 0 (by omega)
    have : ¬ x = y := fun e => h0 (by rw [← e]; rfl)
    rw [posN, if_neg this, posN_of (xs := l) (k := k) (by simpa using h) fun q hq => by have := hf (q + 1) (by omega); simpa using this]; rfl
theorem posN_no : ∀ {xs : List Nat} {y : Nat}, (∀ q : Nat, xs[q]? ≠ some y) → posN xs y = none
  | [], y, _ => rfl
  | x :: l, y, hf => by
    have : ¬ x = y := fun e => hf 0 (by rw [← e]; rfl)
    rw [posN, if_neg this, posN_no (xs := l) fun q => by have := hf (q + 1); simpa using this]; rfl
theorem posI_of {xs : List Nat} {k y : Nat} (h : xs[k]? = some y) (hf : ∀ q, q < k → xs[q]? ≠ some y) : posI xs y = (k : Int) := by unfold posI; rw [posN_of h hf]
theorem posI_no {xs : List Nat} {y : Nat} (hf : ∀ q : Nat, xs[q]? ≠ some y) : posI xs y = -1 := by unfold posI; rw [posN_no hf]
theorem pos_any {W : World} {va : Value} {xs : List Nat} {y : Nat} (ha : SlS FN 1 W va xs) : Calls Try.prog 14 #[va, .int .i64 ((y : Nat) : Int)] W fun e w' => e = .returned (.int .i64 (posI xs y)) ∧ Below W.heap.size W w' := by
  have m1 := sls_bd ha
  refine calls_pure (Gx.enter (l := []) Try.func14 rfl Try.ntmps14 rfl (Sat.start W) ?_)
  refine Gx.know (m' := [(0, va), (1, .int .i64 ((y : Nat) : Int))]) (.cons rfl (.cons rfl .nil)) ?_
  refine Gx.seq ?_
  refine Gx.region ?_
  refine Gx.val rfl rfl rfl (val_assign rfl rfl) ?_
  refine Gx.done ?_
  refine Gx.thenN ?_
  refine Gx.seq ?_
  refine Gx.seq ?_
  refine Gx.region ?_
  refine Gx.val rfl rfl rfl (val_assign rfl rfl) ?_
  refine Gx.done ?_
  refine Gx.thenN ?_
  refine Gx.block ?_
  refine Gx.loop (ι := Nat) (fun ξ => (ξ ≤ xs.length) ∧ (∀ q, q < ξ → xs[q]? ≠ some y)) (fun ξ => [(0, va), (1, .int .i64 ((y : Nat) : Int)), (5, .int .i64 ((ξ : Nat) : Int))]) (fun ξ => []) (fun ξ => xs.length - ξ) 0 ⟨by first | omega | (dsimp only; omega), fun q hq => absurd hq (Nat.not_lt_zero _)⟩ ((.cons rfl (.cons rfl (.cons rfl .nil)))) rfl ?_
  rintro k ⟨hk, hf⟩
  refine Gx.know (m' := [(0, va), (1, .int .i64 ((y : Nat) : Int)), (5, .int .i64 ((k : Nat) : Int))]) (.cons rfl (.cons rfl (.cons rfl .nil))) (Gx.norm (l' := []) rfl ?_)
  refine Gx.seq ?_
  refine Gx.seq ?_
  refine Gx.region ?_
  refine Gx.val rfl rfl rfl (val_move rfl rfl) ?_
  refine Gx.val rfl rfl rfl (val_move rfl rfl) ?_
  refine Gx.val rfl rfl rfl (val_len rfl Try.underlying24 rfl (len_base ha)) ?_
  refine Gx.val rfl rfl rfl (val_lss rfl rfl rfl) ?_
  refine Gx.done ?_
  refine Gx.thenN ?_
  refine Gx.dec rfl (fun h1 => ?_) (fun h1 => ?_)
  · refine Gx.skip ?_
    refine Gx.thenN ?_
    refine Gx.seq ?_
    refine Gx.block ?_
    refine Gx.seq ?_
    refine Gx.region ?_
    refine Gx.val rfl rfl rfl (val_move rfl rfl) ?_
    refine Gx.val rfl rfl rfl (val_move rfl rfl) ?_
    obtain ⟨x2, hx2⟩ := get_of_lt (xs := xs) (k := k) (by omega)
    refine Gx.val rfl rfl rfl (val_ixa rfl Try.underlying24 Try.ty3 rfl rfl (j := k) (rfl) (reach_base ha hx2)) ?_
    refine Gx.val rfl rfl rfl (val_load rfl Try.ty3 rfl rfl (cell_base (i := 0) ha hx2 rfl)) ?_
    refine Gx.val rfl rfl rfl (val_move rfl rfl) ?_
    refine Gx.val rfl rfl rfl (val_eql rfl rfl rfl) ?_
    refine Gx.done ?_
    refine Gx.thenN ?_
    refine Gx.dec rfl (fun h3 => ?_) (fun h3 => ?_)
    · refine Gx.seq ?_
      refine Gx.region ?_
      refine Gx.val rfl rfl rfl (val_move rfl rfl) ?_
      refine Gx.val rfl rfl rfl (val_assign rfl rfl) ?_
      refine Gx.done ?_
      refine Gx.thenN ?_
      refine Gx.ret ?_
      refine Gx.blkR ?_
      refine Gx.thenR ?_
      refine Gx.thenR ?_
      refine Gx.blkR ?_
      refine Gx.thenR ?_
      refine Gx.ret1 Try.results14 rfl ?_
      exact congrArg (Value.int .i64) (posI_of (hx2.trans (congrArg some (by omega))) hf).symm
    · refine Gx.skip ?_
      refine Gx.blkN ?_
      refine Gx.thenN ?_
      refine Gx.region ?_
      refine Gx.val rfl rfl rfl (val_move rfl rfl) ?_
      refine Gx.val rfl rfl rfl (val_add rfl rfl rfl (r := ((k + 1 : Nat) : Int)) (w64 (by omega) (by omega))) ?_
      refine Gx.val rfl rfl rfl (val_assign rfl rfl) ?_
      refine Gx.done ?_
      refine Gx.thenN ?_
      exact Gx.round (k + 1) ⟨by first | omega | (dsimp only; omega), fun q hq => by rcases Nat.lt_or_eq_of_le (Nat.le_of_lt_succ hq) with h | rfl; (exact hf q h); (rw [hx2]; intro h9; have h9 := Option.some.inj h9; omega)⟩ (by first | omega | (dsimp only; omega)) ((.cons rfl (.cons rfl (.cons rfl .nil)))) rfl
  · refine Gx.exit ?_
    refine Gx.thenE ?_
    refine Gx.thenE ?_
    refine Gx.blkE ?_
    refine Gx.thenN ?_
    refine Gx.seq ?_
    refine Gx.region ?_
    refine Gx.val rfl rfl rfl (val_assign rfl rfl) ?_
    refine Gx.done ?_
    refine Gx.thenN ?_
    refine Gx.ret ?_
    refine Gx.ret1 Try.results14 rfl ?_
    exact congrArg (Value.int .i64) (posI_no fun q => by rcases Nat.lt_or_ge q k with h | h; (exact hf q h); (rw [List.getElem?_eq_none (by omega)]; intro h9; cases h9)).symm

theorem nodup_before {xs : List Nat} {i y : Nat} (hn : xs.Nodup) (hi : xs[i]? = some y) : ∀ q, q < i → xs[q]? ≠ some y := fun q hq h => by
  obtain ⟨h1, h2⟩ := List.getElem?_eq_some_iff.1 hi
  obtain ⟨h3, h4⟩ := List.getElem?_eq_some_iff.1 h
  exact (List.pairwise_iff_getElem.1 hn) q i h3 h1 hq (by rw [h2, h4])
theorem posI_at {xs : List Nat} {i y : Nat} (hn : xs.Nodup) (hi : xs[i]? = some y) : posI xs y = (i : Int) := posI_of hi (nodup_before hn hi)
theorem posI_mem {xs : List Nat} {y : Nat} (hn : xs.Nodup) (h : ¬ posI xs y < 0) : ∃ i : Nat, xs[i]? = some y ∧ posI xs y = (i : Int) := by
  by_cases c : y ∈ xs
  · obtain ⟨i, hi⟩ := List.getElem?_of_mem c
    exact ⟨i, hi, posI_at hn hi⟩
  · exact absurd (posI_no fun q hq => c (List.mem_of_getElem? hq)) (by intro e; rw [e] at h; exact h (by decide))

theorem once_yes {W : World} {va : Value} {xs : List Nat} (ha : SlS FN 1 W va xs) (hn : xs.Nodup) : Calls Try.prog 10 #[va] W fun e w' => e = .returned (.bool true) ∧ Below W.heap.size W w' := by
  have m1 := sls_bd ha
  refine calls_pure (Gx.enter (l := []) Try.func10 rfl Try.ntmps10 rfl (Sat.start W) ?_)
  refine Gx.know (m' := [(0, va)]) (.cons rfl .nil) ?_
  refine Gx.seq ?_
  refine Gx.region ?_
  refine Gx.val rfl rfl rfl (val_assign rfl rfl) ?_
  refine Gx.done ?_
  refine Gx.thenN ?_
  refine Gx.seq ?_
  refine Gx.seq ?_
  refine Gx.region ?_
  refine Gx.val rfl rfl rfl (val_assign rfl rfl) ?_
  refine Gx.done ?_
  refine Gx.thenN ?_
  refine Gx.block ?_
  refine Gx.loop (ι := Nat) (fun ξ => (ξ ≤ xs.length)) (fun ξ => [(0, va), (3, .int .i64 ((ξ : Nat) : Int))]) (fun ξ => []) (fun ξ => xs.length - ξ) 0 (by first | omega | (dsimp only; omega)) ((.cons rfl (.cons rfl .nil))) rfl ?_
  rintro i hi
  refine Gx.know (m' := [(0, va), (3, .int .i64 ((i : Nat) : Int))]) (.cons rfl (.cons rfl .nil)) (Gx.norm (l' := []) rfl ?_)
  refine Gx.seq ?_
  refine Gx.seq ?_
  refine Gx.region ?_
  refine Gx.val rfl rfl rfl (val_move rfl rfl) ?_
  refine Gx.val rfl rfl rfl (val_move rfl rfl) ?_
  refine Gx.val rfl rfl rfl (val_len rfl Try.underlying24 rfl (len_base ha)) ?_
  refine Gx.val rfl rfl rfl (val_lss rfl rfl rfl) ?_
  refine Gx.done ?_
  refine Gx.thenN ?_
  refine Gx.dec rfl (fun h1 => ?_) (fun h1 => ?_)
  · refine Gx.skip ?_
    refine Gx.thenN ?_
    refine Gx.seq ?_
    refine Gx.block ?_
    refine Gx.seq ?_
    refine Gx.region ?_
    refine Gx.val rfl rfl rfl (val_move rfl rfl) ?_
    refine Gx.val rfl rfl rfl (val_move rfl rfl) ?_
    refine Gx.val rfl rfl rfl (val_move rfl rfl) ?_
    obtain ⟨x2, hx2⟩ := get_of_lt (xs := xs) (k := i) (by omega)
    refine Gx.val rfl rfl rfl (val_ixa rfl Try.underlying24 Try.ty3 rfl rfl (j := i) (rfl) (reach_base ha hx2)) ?_
    refine Gx.val rfl rfl rfl (val_load rfl Try.ty3 rfl rfl (cell_base (i := 0) ha hx2 rfl)) ?_
    refine Gx.val rfl rfl rfl (val_call (vs := [va, .int .i64 ((x2 : Nat) : Int)]) rfl Try.fn14 rfl (fun w H => (posI_at hn hx2) ▸ pos_any (ha.below H.below))) ?_
    refine Gx.val rfl rfl rfl (val_move rfl rfl) ?_
    refine Gx.val rfl rfl rfl (val_neq rfl rfl rfl) ?_
    refine Gx.done ?_
    refine Gx.thenN ?_
    refine Gx.decF rfl (by omega) ?_
    refine Gx.skip ?_
    refine Gx.blkN ?_
    refine Gx.thenN ?_
    refine Gx.region ?_
    refine Gx.val rfl rfl rfl (val_move rfl rfl) ?_
    refine Gx.val rfl rfl rfl (val_add rfl rfl rfl (r := ((i + 1 : Nat) : Int)) (w64 (by omega) (by omega))) ?_
    refine Gx.val rfl rfl rfl (val_assign rfl rfl) ?_
    refine Gx.done ?_
    refine Gx.thenN ?_
    exact Gx.round (i + 1) (by first | omega | (dsimp only; omega)) (by first | omega | (dsimp only; omega)) ((.cons rfl (.cons rfl .nil))) rfl
  · refine Gx.exit ?_
    refine Gx.thenE ?_
    refine Gx.thenE ?_
    refine Gx.blkE ?_
    refine Gx.thenN ?_
    refine Gx.seq ?_
    refine Gx.region ?_
    refine Gx.val rfl rfl rfl (val_assign rfl rfl) ?_
    refine Gx.done ?_
    refine Gx.thenN ?_
    refine Gx.ret ?_
    refine Gx.ret1 Try.results10 rfl ?_
    rfl

theorem inside_yes {W : World} {va : Value} {xs : List Nat} {n : Nat} (ha : SlS FN 1 W va xs) (hall : ∀ x ∈ xs, x < n) : Calls Try.prog 9 #[.int .i64 ((n : Nat) : Int), va] W fun e w' => e = .returned (.bool true) ∧ Below W.heap.size W w' := by
  have m1 := sls_bd ha
  refine calls_pure (Gx.enter (l := []) Try.func9 rfl Try.ntmps9 rfl (Sat.start W) ?_)
  refine Gx.know (m' := [(0, .int .i64 ((n : Nat) : Int)), (1, va)]) (.cons rfl (.cons rfl .nil)) ?_
  refine Gx.seq ?_
  refine Gx.region ?_
  refine Gx.val rfl rfl rfl (val_assign rfl rfl) ?_
  refine Gx.done ?_
  refine Gx.thenN ?_
  refine Gx.seq ?_
  refine Gx.seq ?_
  refine Gx.region ?_
  refine Gx.val rfl rfl rfl (val_move rfl rfl) ?_
  refine Gx.val rfl rfl rfl (val_len rfl Try.underlying24 rfl (len_base ha)) ?_
  refine Gx.val rfl rfl rfl (val_move rfl rfl) ?_
  refine Gx.done ?_
  refine Gx.thenN ?_
  refine Gx.block ?_
  refine Gx.loop (ι := Nat) (fun ξ => (ξ ≤ xs.length)) (fun ξ => [(0, .int .i64 ((n : Nat) : Int)), (7, va), (8, .int .i64 ((xs.length : Nat) : Int)), (9, .int .i64 ((ξ : Nat) : Int))]) (fun ξ => []) (fun ξ => xs.length - ξ) 0 (by first | omega | (dsimp only; omega)) ((.cons rfl (.cons rfl (.cons rfl (.cons rfl .nil))))) rfl ?_
  rintro i hi
  refine Gx.know (m' := [(0, .int .i64 ((n : Nat) : Int)), (7, va), (8, .int .i64 ((xs.length : Nat) : Int)), (9, .int .i64 ((i : Nat) : Int))]) (.cons rfl (.cons rfl (.cons rfl (.cons rfl .nil)))) (Gx.norm (l' := []) rfl ?_)
  refine Gx.seq ?_
  refine Gx.region ?_
  refine Gx.val rfl rfl rfl (val_lss rfl rfl rfl) ?_
  refine Gx.done ?_
  refine Gx.thenN ?_
  refine Gx.seq ?_
  refine Gx.dec rfl (fun h1 => ?_) (fun h1 => ?_)
  · refine Gx.skip ?_
    refine Gx.thenN ?_
    refine Gx.seq ?_
    refine Gx.block ?_
    refine Gx.seq ?_
    refine Gx.region ?_
    obtain ⟨x2, hx2⟩ := get_of_lt (xs := xs) (k := i) (by omega)
    refine Gx.val rfl rfl rfl (val_ixa rfl Try.underlying24 Try.ty3 rfl rfl (j := i) (rfl) (reach_base ha hx2)) ?_
    refine Gx.val rfl rfl rfl (val_load rfl Try.ty3 rfl rfl (cell_base (i := 0) ha hx2 rfl)) ?_
    refine Gx.val rfl rfl rfl (val_assign rfl rfl) ?_
    refine Gx.done ?_
    refine Gx.thenN ?_
    refine Gx.seq ?_
    have hxn := hall x2 (List.mem_of_getElem? hx2)
    refine Gx.region ?_
    refine Gx.val rfl rfl rfl (val_move rfl rfl) ?_
    refine Gx.val rfl rfl rfl (val_lss rfl rfl rfl) ?_
    refine Gx.val rfl rfl rfl (val_move rfl rfl) ?_
    refine Gx.slot (t := 15) (v := .bool false) (look_decF rfl (by omega)) ?_
    refine Gx.valg rfl rfl rfl rfl rfl (val_move rfl rfl) ?_
    refine Gx.valg rfl rfl rfl rfl rfl (val_move rfl rfl) ?_
    refine Gx.valg rfl rfl rfl rfl rfl (val_geq rfl rfl rfl) ?_
    refine Gx.val rfl rfl rfl (val_pickF rfl rfl rfl) ?_
    refine Gx.done ?_
    refine Gx.thenN ?_
    refine Gx.decF rfl (by omega) ?_
    refine Gx.skip ?_
    refine Gx.blkN ?_
    refine Gx.thenN ?_
    refine Gx.region ?_
    refine Gx.val rfl rfl rfl (val_add rfl rfl rfl (r := ((i + 1 : Nat) : Int)) (w64 (by omega) (by omega))) ?_
    refine Gx.val rfl rfl rfl (val_move rfl rfl) ?_
    refine Gx.done ?_
    refine Gx.thenN ?_
    exact Gx.round (i + 1) (by first | omega | (dsimp only; omega)) (by first | omega | (dsimp only; omega)) ((.cons rfl (.cons rfl (.cons rfl (.cons rfl .nil))))) rfl
  · refine Gx.exit ?_
    refine Gx.thenE ?_
    refine Gx.thenE ?_
    refine Gx.blkE ?_
    refine Gx.thenN ?_
    refine Gx.seq ?_
    refine Gx.region ?_
    refine Gx.val rfl rfl rfl (val_assign rfl rfl) ?_
    refine Gx.done ?_
    refine Gx.thenN ?_
    refine Gx.ret ?_
    refine Gx.ret1 Try.results9 rfl ?_
    rfl

theorem needs_yes {W : World} {n : Int} {nv : Value} {l : List Nd} (h : NdS W nv l) (hk : OkN n l) : Calls Try.prog 8 #[.int .i64 n, nv] W fun e w' => e = .returned (.bool true) ∧ Below W.heap.size W w' := by
  refine calls_pure (Gx.enter (l := []) Try.func8 rfl Try.ntmps8 rfl (Sat.start W) ?_)
  refine Gx.know (m' := [(0, .int .i64 n), (1, nv)]) (.cons rfl (.cons rfl .nil)) ?_
  refine Gx.seq ?_
  refine Gx.region ?_
  refine Gx.val rfl rfl rfl (val_assign rfl rfl) ?_
  refine Gx.done ?_
  refine Gx.thenN ?_
  refine Gx.seq ?_
  refine Gx.region ?_
  refine Gx.val rfl rfl rfl (val_move rfl rfl) ?_
  refine Gx.val rfl rfl rfl (val_move rfl rfl) ?_
  refine Gx.val rfl rfl rfl (val_call (vs := [.int .i64 n, nv]) rfl Try.fn22 rfl (fun w H => needs_ok (h.below H.below) hk)) ?_
  refine Gx.val rfl rfl rfl (Val.cast (val_eql rfl rfl rfl) (v' := .bool true) rfl) ?_
  refine Gx.val rfl rfl rfl (val_assign rfl rfl) ?_
  refine Gx.done ?_
  refine Gx.thenN ?_
  refine Gx.ret ?_
  refine Gx.ret1 Try.results8 rfl ?_
  rfl

theorem needs_not {W : World} {n : Int} {nv : Value} {l : List Nd} (h : NdS W nv l) (hk : ¬ OkN n l) : Calls Try.prog 8 #[.int .i64 n, nv] W fun e w' => e = .returned (.bool false) ∧ Below W.heap.size W w' := by
  refine calls_pure (Gx.enter (l := []) Try.func8 rfl Try.ntmps8 rfl (Sat.start W) ?_)
  refine Gx.know (m' := [(0, .int .i64 n), (1, nv)]) (.cons rfl (.cons rfl .nil)) ?_
  refine Gx.seq ?_
  refine Gx.region ?_
  refine Gx.val rfl rfl rfl (val_assign rfl rfl) ?_
  refine Gx.done ?_
  refine Gx.thenN ?_
  refine Gx.seq ?_
  refine Gx.region ?_
  refine Gx.val rfl rfl rfl (val_move rfl rfl) ?_
  refine Gx.val rfl rfl rfl (val_move rfl rfl) ?_
  refine Gx.eff rfl rfl rfl (eff_callE (vs := [.int .i64 n, nv]) rfl Try.fn22 rfl (R := fun v => ∃ c : Int, v = .int .i64 c ∧ c ≠ 0) (fun w H => needs_no (h.below H.below) hk)) ?_
  rintro _ _ ⟨⟨c, rfl, hc⟩, rfl⟩
  refine Gx.val rfl rfl rfl (val_eql rfl rfl rfl) ?_
  refine Gx.val rfl rfl rfl (val_assign rfl rfl) ?_
  refine Gx.done ?_
  refine Gx.thenN ?_
  refine Gx.ret ?_
  refine Gx.ret1 Try.results8 rfl ?_
  exact congrArg Value.bool (decide_eq_false hc)

theorem posI_ge {xs : List Nat} {y : Nat} : 0 ≤ posI xs y ↔ y ∈ xs := by
  constructor
  · intro h
    refine Classical.byContradiction fun c => ?_
    rw [posI_no fun q hq => c (List.mem_of_getElem? hq)] at h
    exact absurd h (by decide)
  · intro h
    unfold posI
    cases e : posN xs y with
    | some k => exact Int.natCast_nonneg k
    | none =>
      exfalso
      obtain ⟨k, hk⟩ := List.getElem?_of_mem h
      have : ∀ {xs : List Nat} {k : Nat}, xs[k]? = some y → posN xs y ≠ none := fun {xs} => by
        induction xs with
        | nil => intro k h; simp at h
        | cons x xs ih =>
          intro k h
          rw [posN]
          split
          · simp
          · rename_i hne
            cases k with
            | zero => simp at h; exact absurd h hne
            | succ k => have := ih (k := k) (by simpa using h); simpa using this
      exact this hk e
/-! who is not in a list, below n -/
def oth (l : List Nat) : Nat → List Nat
  | 0 => []
  | k + 1 => oth l k ++ if posI l k < 0 then [k] else []
theorem oth_le (l : List Nat) : ∀ k, (oth l k).length ≤ k
  | 0 => Nat.le_refl _
  | k + 1 => by have := oth_le l k; simp only [oth, List.length_append]; split <;> simp <;> omega
theorem oth_mem {l : List Nat} : ∀ {k i : Nat}, i ∈ oth l k ↔ i < k ∧ i ∉ l
  | 0, i => by simp [oth]
  | k + 1, i => by
    rw [oth, List.mem_append, oth_mem (k := k)]
    by_cases c : posI l k < 0
    · have hn : k ∉ l := fun h => by have := posI_ge.2 h; omega
      rw [if_pos c, List.mem_singleton]
      constructor
      · rintro (⟨h1, h2⟩ | rfl)
        · exact ⟨by omega, h2⟩
        · exact ⟨by omega, hn⟩
      · rintro ⟨h1, h2⟩
        by_cases e : i = k
        · exact .inr e
        · exact .inl ⟨by omega, h2⟩
    · have hn : k ∈ l := posI_ge.1 (by omega)
      rw [if_neg c]
      constructor
      · rintro (⟨h1, h2⟩ | h)
        · exact ⟨by omega, h2⟩
        · cases h
      · rintro ⟨h1, h2⟩
        by_cases e : i = k
        · subst e; exact absurd hn h2
        · exact .inl ⟨by omega, h2⟩
/-- who has to be free where those of S are -/
def Must (l : List Nd) (S : Nat → Prop) (i : Nat) : Prop := (∀ x ∈ l, x.who.toNat ≠ i) ∨ ∃ x ∈ l, x.who.toNat = i ∧ condP S x
def ClosedL (n : Nat) (l : List Nd) (fr : List Nat) : Prop := ∀ i, i < n → Must l (· ∈ fr) i → i ∈ fr
theorem closed_free {n : Nat} {l : List Nd} {s : List Nat} (hk : OkN (n : Int) l) (hs : ∀ i, i ∈ s ↔ i < n ∧ isF n l i) : ClosedL n l s := fun i hi hm => by
  rw [hs]
  refine ⟨hi, ?_⟩
  rcases hm with h | ⟨x, hx, rfl, hc⟩
  · exact free_none hi h
  · refine free_closed hk hx ?_
    rcases hc with ⟨h1, h2⟩ | ⟨h1, k, h2, h3⟩
    · exact .inl ⟨h1, fun k hk => ((hs _).1 (h2 k hk)).2⟩
    · exact .inr ⟨h1, k, h2, ((hs _).1 h3).2⟩
theorem closed_least {n i : Nat} {l : List Nd} {s : List Nat} (hk : OkN (n : Int) l) (hs : ClosedL n l s) (h : isF n l i) : i ∈ s := by
  refine free_least (S := (· ∈ s)) (fun x hx hc => hs _ ?_ (.inr ⟨x, hx, rfl, hc⟩)) (fun j hj hno => hs j hj (.inl hno)) h
  have h1 := (hk.el x hx).w0; have h2 := (hk.el x hx).w1; omega
def memI (fr : List Nat) (k : Int) : Bool := decide (0 ≤ posI fr k.toNat)
theorem memI_iff {fr : List Nat} {k : Int} : memI fr k = true ↔ k.toNat ∈ fr := by unfold memI; rw [decide_eq_true_eq, posI_ge]
structure FrI (l : List Nd) (fr : List Nat) (i j : Nat) (w a s e : Bool) : Prop where
  no : w = false → (∀ x ∈ l.take j, x.who.toNat ≠ i) ∧ a = true ∧ s = false ∧ e = false
  yes : w = true → ∃ x ∈ l.take j, x.who.toNat = i ∧ e = x.all ∧ a = x.fr.all (memI fr) ∧ s = x.fr.any (memI fr)
theorem FrI.zero (l : List Nd) (fr : List Nat) (i : Nat) : FrI l fr i 0 false true false false := ⟨fun _ => ⟨fun x hx => by simp at hx, rfl, rfl, rfl⟩, fun h => by cases h⟩
theorem FrI.skip {l : List Nd} {fr : List Nat} {i j : Nat} {w a s e : Bool} {x : Nd} (h : FrI l fr i j w a s e) (hx : l[j]? = some x) (hne : x.who.toNat ≠ i) : FrI l fr i (j + 1) w a s e :=
  ⟨fun hw => by
    obtain ⟨h1, h2⟩ := h.no hw
    exact ⟨fun y hy => by
      rcases (mem_take_succ hx).1 hy with q | rfl
      · exact h1 y q
      · exact hne, h2⟩, fun hw => by
    obtain ⟨y, h1, h2⟩ := h.yes hw
    exact ⟨y, (mem_take_succ hx).2 (.inl h1), h2⟩⟩
theorem FrI.first {n : Int} {l : List Nd} {fr : List Nat} {i j : Nat} {w a s e : Bool} {x : Nd} (hk : OkN n l) (h : FrI l fr i j w a s e) (hx : l[j]? = some x) (he : x.who.toNat = i) : a = true ∧ s = false := by
  cases w with
  | false => exact ⟨(h.no rfl).2.1, (h.no rfl).2.2.1⟩
  | true =>
    exfalso
    obtain ⟨y, hy, h1, _⟩ := h.yes rfl
    have hmem : y ∈ l := List.mem_of_mem_take hy
    have := hk.who_inj' hmem (List.mem_of_getElem? hx) (h1.trans he.symm)
    subst this
    obtain ⟨q, hq⟩ := List.getElem?_of_mem hy
    rw [List.getElem?_take] at hq
    split at hq
    · obtain ⟨q1, q2⟩ := List.getElem?_eq_some_iff.1 hq
      obtain ⟨q3, q4⟩ := List.getElem?_eq_some_iff.1 hx
      exact (List.pairwise_iff_getElem.1 hk.dist) q j q1 q3 (by assumption) (by rw [q2, q4])
    · cases hq
theorem FrI.hit {l : List Nd} {fr : List Nat} {i j : Nat} {x : Nd} (hx : l[j]? = some x) (he : x.who.toNat = i) : FrI l fr i (j + 1) true (x.fr.all (memI fr)) (x.fr.any (memI fr)) x.all :=
  ⟨fun h => (by cases h), fun _ => ⟨x, (mem_take_succ hx).2 (.inr rfl), he, rfl, rfl, rfl⟩⟩
theorem FrI.must {n : Int} {l : List Nd} {fr : List Nat} {i : Nat} {w a s e : Bool} (hk : OkN n l) (h : FrI l fr i l.length w a s e) : Must l (· ∈ fr) i ↔ w = false ∨ (e = true ∧ a = true) ∨ (e = false ∧ s = true) := by
  have hall : ∀ (x : Nd), x.fr.all (memI fr) = true ↔ ∀ k ∈ x.fr, k.toNat ∈ fr := fun x => by
    rw [List.all_eq_true]; exact ⟨fun h k hk => memI_iff.1 (h k hk), fun h k hk => memI_iff.2 (h k hk)⟩
  have hany : ∀ (x : Nd), x.fr.any (memI fr) = true ↔ ∃ k ∈ x.fr, k.toNat ∈ fr := fun x => by
    rw [List.any_eq_true]; exact ⟨fun ⟨k, h1, h2⟩ => ⟨k, h1, memI_iff.1 h2⟩, fun ⟨k, h1, h2⟩ => ⟨k, h1, memI_iff.2 h2⟩⟩
  cases w with
  | false =>
    obtain ⟨h1, _⟩ := h.no rfl
    rw [List.take_length] at h1
    exact ⟨fun _ => .inl rfl, fun _ => .inl h1⟩
  | true =>
    obtain ⟨x, hx, h1, h2, h3, h4⟩ := h.yes rfl
    rw [List.take_length] at hx
    subst h2; subst h3; subst h4
    constructor
    · rintro (h | ⟨y, hy, hyw, hc⟩)
      · exact absurd h1 (h x hx)
      · have := hk.who_inj' hy hx (hyw.trans h1.symm)
        subst this
        rcases hc with ⟨q1, q2⟩ | ⟨q1, k, q2, q3⟩
        · exact .inr (.inl ⟨q1, (hall y).2 q2⟩)
        · exact .inr (.inr ⟨q1, (hany y).2 ⟨k, q2, q3⟩⟩)
    · rintro (q | ⟨q1, q2⟩ | ⟨q1, q2⟩)
      · cases q
      · exact .inr ⟨x, hx, h1, .inl ⟨q1, (hall x).1 q2⟩⟩
      · obtain ⟨k, q3, q4⟩ := (hany x).1 q2
        exact .inr ⟨x, hx, h1, .inr ⟨q1, k, q3, q4⟩⟩
theorem others_any {W w : World} {R : Hp} {n : Nat} {va : Value} {xs : List Nat} (ha : SlS FN 1 W va xs) (hn : n ≤ 12) (H : Sat W w R) : Calls Try.prog 11 #[.int .i64 ((n : Nat) : Int), va] w (Ret W fun v l => IsS v ∧ sep l = Hp.own FN 1 v (oth xs n) * R) := by
  refine Gx.enter (l := [R]) Try.func11 rfl Try.ntmps11 rfl ((H.cast (Hp.mul_one _).symm)) ?_
  refine Gx.know (m' := [(0, .int .i64 ((n : Nat) : Int)), (1, va)]) (.cons rfl (.cons rfl .nil)) ?_
  refine Gx.seq ?_
  refine Gx.region ?_
  refine Gx.val rfl rfl rfl (val_assign rfl rfl) ?_
  refine Gx.done ?_
  refine Gx.thenN ?_
  refine Gx.seq ?_
  refine Gx.region ?_
  refine Gx.val rfl rfl rfl (val_assign rfl rfl) ?_
  refine Gx.done ?_
  refine Gx.thenN ?_
  refine Gx.seq ?_
  refine Gx.seq ?_
  refine Gx.ownNil FN 1 ?_
  refine Gx.region ?_
  refine Gx.val rfl rfl rfl (val_assign rfl rfl) ?_
  refine Gx.done ?_
  refine Gx.thenN ?_
  refine Gx.block ?_
  refine Gx.loop (ι := Nat × Value) (fun ξ => (ξ.1 ≤ n) ∧ (IsS ξ.2)) (fun ξ => [(0, .int .i64 ((n : Nat) : Int)), (1, va), (6, .int .i64 ((ξ.1 : Nat) : Int)), (5, ξ.2)]) (fun ξ => [Hp.own FN 1 ξ.2 (oth xs ξ.1), R]) (fun ξ => n - ξ.1) (0, (.slice none 0 0)) ⟨by first | omega | (dsimp only; omega), ⟨none, 0, 0, rfl⟩⟩ ((.cons rfl (.cons rfl (.cons rfl (.cons rfl .nil))))) rfl ?_
  rintro ⟨k, lv⟩ ⟨hk, hil⟩
  dsimp only at hk hil
  refine Gx.know (m' := [(0, .int .i64 ((n : Nat) : Int)), (1, va), (6, .int .i64 ((k : Nat) : Int)), (5, lv)]) (.cons rfl (.cons rfl (.cons rfl (.cons rfl .nil)))) (Gx.norm (l' := [Hp.own FN 1 lv (oth xs k), R]) rfl ?_)
  have hsl := oth_le xs k
  refine Gx.seq ?_
  refine Gx.seq ?_
  refine Gx.region ?_
  refine Gx.val rfl rfl rfl (val_move rfl rfl) ?_
  refine Gx.val rfl rfl rfl (val_move rfl rfl) ?_
  refine Gx.val rfl rfl rfl (val_lss rfl rfl rfl) ?_
  refine Gx.done ?_
  refine Gx.thenN ?_
  refine Gx.dec rfl (fun h1 => ?_) (fun h1 => ?_)
  · refine Gx.skip ?_
    refine Gx.thenN ?_
    refine Gx.seq ?_
    refine Gx.block ?_
    refine Gx.seq ?_
    refine Gx.region ?_
    refine Gx.val rfl rfl rfl (val_move rfl rfl) ?_
    refine Gx.val rfl rfl rfl (val_move rfl rfl) ?_
    refine Gx.val rfl rfl rfl (val_call (vs := [va, .int .i64 ((k : Nat) : Int)]) rfl Try.fn14 rfl (fun w H => pos_any (ha.below H.below))) ?_
    refine Gx.val rfl rfl rfl (val_lss rfl rfl rfl) ?_
    refine Gx.done ?_
    refine Gx.thenN ?_
    refine Gx.dec rfl (fun h2 => ?_) (fun h2 => ?_)
    · refine Gx.region ?_
      refine Gx.val rfl rfl rfl (val_move rfl rfl) ?_
      refine Gx.val rfl rfl rfl (val_move rfl rfl) ?_
      refine Gx.eff rfl rfl rfl (eff_buildSlice rfl (qs := [(0, .int .i64 ((k : Nat) : Int))]) rfl rfl (cs := #[.int .i64 ((k : Nat) : Int)]) (vs := [.int .i64 ((k : Nat) : Int)]) (E := 3) rfl (fun w => by first | (go_simp; done) | (go_simp; rfl))) ?_
      rintro _ _ ⟨b3, rfl, rfl⟩
      refine Gx.eff rfl rfl rfl (eff_push (r := k) rfl Try.eN FN_len FN_one rfl rfl (k := 0) rfl rfl (k' := 0) rfl (by omega) (by omega)) ?_
      rintro v4 _ ⟨hiv4, rfl⟩
      refine Gx.norm (l' := [Hp.own FN 1 v4 ((oth xs k) ++ [k]), R]) rfl ?_
      refine Gx.val rfl rfl rfl (val_assign rfl rfl) ?_
      refine Gx.done ?_
      refine Gx.blkN ?_
      refine Gx.thenN ?_
      refine Gx.region ?_
      refine Gx.val rfl rfl rfl (val_move rfl rfl) ?_
      refine Gx.val rfl rfl rfl (val_add rfl rfl rfl (r := ((k + 1 : Nat) : Int)) (w64 (by omega) (by omega))) ?_
      refine Gx.val rfl rfl rfl (val_assign rfl rfl) ?_
      refine Gx.done ?_
      refine Gx.thenN ?_
      refine Gx.norm (l' := [Hp.own FN 1 v4 (oth xs (k + 1)), R]) (by rw [oth, if_pos h2] <;> rfl) ?_
      exact Gx.round (k + 1, v4) ⟨by first | omega | (dsimp only; omega), hiv4⟩ (by first | omega | (dsimp only; omega)) ((.cons rfl (.cons rfl (.cons rfl (.cons rfl .nil))))) rfl
    · refine Gx.skip ?_
      refine Gx.blkN ?_
      refine Gx.thenN ?_
      refine Gx.region ?_
      refine Gx.val rfl rfl rfl (val_move rfl rfl) ?_
      refine Gx.val rfl rfl rfl (val_add rfl rfl rfl (r := ((k + 1 : Nat) : Int)) (w64 (by omega) (by omega))) ?_
      refine Gx.val rfl rfl rfl (val_assign rfl rfl) ?_
      refine Gx.done ?_
      refine Gx.thenN ?_
      refine Gx.norm (l' := [Hp.own FN 1 lv (oth xs (k + 1)), R]) (by rw [oth, if_neg h2, List.append_nil] <;> rfl) ?_
      exact Gx.round (k + 1, lv) ⟨by first | omega | (dsimp only; omega), hil⟩ (by first | omega | (dsimp only; omega)) ((.cons rfl (.cons rfl (.cons rfl (.cons rfl .nil))))) rfl
  · refine Gx.exit ?_
    refine Gx.thenE ?_
    refine Gx.thenE ?_
    refine Gx.blkE ?_
    refine Gx.thenN ?_
    refine Gx.seq ?_
    refine Gx.region ?_
    refine Gx.val rfl rfl rfl (val_move rfl rfl) ?_
    refine Gx.val rfl rfl rfl (val_assign rfl rfl) ?_
    refine Gx.done ?_
    refine Gx.thenN ?_
    refine Gx.ret ?_
    refine Gx.ret1 Try.results11 rfl ?_
    obtain rfl : k = n := by omega
    exact ⟨hil, by show _ * (_ * 1) = _; rw [Hp.mul_one]⟩

theorem frees_any {W : World} {n : Nat} {nv va : Value} {l : List Nd} {fr : List Nat} (h : NdS W nv l) (hk : OkN (n : Int) l) (ha : SlS FN 1 W va fr) : Calls Try.prog 12 #[.int .i64 ((n : Nat) : Int), nv, va] W fun e w' => ∃ v, e = .returned v ∧ (∃ b : Bool, v = .bool b ∧ (b = true ↔ ClosedL n l fr)) ∧ Below W.heap.size W w' := by
  have m1 := sls_bd h.sl
  have m2 := sls_bd ha
  have hn12 := hk.n12
  refine calls_rel (R := fun v => ∃ b : Bool, v = .bool b ∧ (b = true ↔ ClosedL n l fr)) (Gx.enter (l := []) Try.func12 rfl Try.ntmps12 rfl (Sat.start W) ?_)
  refine Gx.know (m' := [(0, .int .i64 ((n : Nat) : Int)), (1, nv), (2, va)]) (.cons rfl (.cons rfl (.cons rfl .nil))) ?_
  refine Gx.seq ?_
  refine Gx.region ?_
  refine Gx.val rfl rfl rfl (val_assign rfl rfl) ?_
  refine Gx.done ?_
  refine Gx.thenN ?_
  refine Gx.seq ?_
  refine Gx.seq ?_
  refine Gx.region ?_
  refine Gx.val rfl rfl rfl (val_assign rfl rfl) ?_
  refine Gx.done ?_
  refine Gx.thenN ?_
  refine Gx.block ?_
  refine Gx.loop (ι := Nat) (fun ξ => (ξ ≤ n) ∧ (∀ q, q < ξ → Must l (· ∈ fr) q → q ∈ fr)) (fun ξ => [(0, .int .i64 ((n : Nat) : Int)), (1, nv), (2, va), (7, .int .i64 ((ξ : Nat) : Int))]) (fun ξ => []) (fun ξ => n - ξ) 0 ⟨by first | omega | (dsimp only; omega), fun q hq => absurd hq (Nat.not_lt_zero _)⟩ ((.cons rfl (.cons rfl (.cons rfl (.cons rfl .nil))))) rfl ?_
  rintro i ⟨hi, hcl⟩
  refine Gx.know (m' := [(0, .int .i64 ((n : Nat) : Int)), (1, nv), (2, va), (7, .int .i64 ((i : Nat) : Int))]) (.cons rfl (.cons rfl (.cons rfl (.cons rfl .nil)))) (Gx.norm (l' := []) rfl ?_)
  refine Gx.seq ?_
  refine Gx.seq ?_
  refine Gx.region ?_
  refine Gx.val rfl rfl rfl (val_move rfl rfl) ?_
  refine Gx.val rfl rfl rfl (val_move rfl rfl) ?_
  refine Gx.val rfl rfl rfl (val_lss rfl rfl rfl) ?_
  refine Gx.done ?_
  refine Gx.thenN ?_
  refine Gx.dec rfl (fun h1 => ?_) (fun h1 => ?_)
  · refine Gx.skip ?_
    refine Gx.thenN ?_
    refine Gx.seq ?_
    refine Gx.block ?_
    refine Gx.seq ?_
    refine Gx.region ?_
    refine Gx.val rfl rfl rfl (val_assign rfl rfl) ?_
    refine Gx.done ?_
    refine Gx.thenN ?_
    refine Gx.seq ?_
    refine Gx.region ?_
    refine Gx.val rfl rfl rfl (val_assign rfl rfl) ?_
    refine Gx.done ?_
    refine Gx.thenN ?_
    refine Gx.seq ?_
    refine Gx.region ?_
    refine Gx.val rfl rfl rfl (val_assign rfl rfl) ?_
    refine Gx.done ?_
    refine Gx.thenN ?_
    refine Gx.seq ?_
    refine Gx.region ?_
    refine Gx.val rfl rfl rfl (val_assign rfl rfl) ?_
    refine Gx.done ?_
    refine Gx.thenN ?_
    refine Gx.seq ?_
    refine Gx.seq ?_
    refine Gx.region ?_
    refine Gx.val rfl rfl rfl (val_move rfl rfl) ?_
    refine Gx.val rfl rfl rfl (val_len rfl Try.underlying22 rfl (len_base h.sl)) ?_
    refine Gx.val rfl rfl rfl (val_move rfl rfl) ?_
    refine Gx.done ?_
    refine Gx.thenN ?_
    refine Gx.block ?_
    refine Gx.loop (ι := Nat × Bool × Bool × Bool × Bool) (fun ξ => (ξ.1 ≤ l.length) ∧ (FrI l fr i ξ.1 ξ.2.1 ξ.2.2.1 ξ.2.2.2.1 ξ.2.2.2.2)) (fun ξ => [(0, .int .i64 ((n : Nat) : Int)), (1, nv), (2, va), (7, .int .i64 ((i : Nat) : Int)), (8, .bool ξ.2.1), (9, .bool ξ.2.2.1), (10, .bool ξ.2.2.2.1), (11, .bool ξ.2.2.2.2), (22, nv), (23, .int .i64 ((l.length : Nat) : Int)), (24, .int .i64 ((ξ.1 : Nat) : Int))]) (fun ξ => []) (fun ξ => l.length - ξ.1) (0, false, true, false, false) ⟨by first | omega | (dsimp only; omega), FrI.zero l fr i⟩ ((.cons rfl (.cons rfl (.cons rfl (.cons rfl (.cons rfl (.cons rfl (.cons rfl (.cons rfl (.cons rfl (.cons rfl (.cons rfl .nil)))))))))))) rfl ?_
    rintro ⟨j, bw, ba, bs, be⟩ ⟨hj, hfr⟩
    dsimp only at hj hfr
    refine Gx.know (m' := [(0, .int .i64 ((n : Nat) : Int)), (1, nv), (2, va), (7, .int .i64 ((i : Nat) : Int)), (8, .bool bw), (9, .bool ba), (10, .bool bs), (11, .bool be), (22, nv), (23, .int .i64 ((l.length : Nat) : Int)), (24, .int .i64 ((j : Nat) : Int))]) (.cons rfl (.cons rfl (.cons rfl (.cons rfl (.cons rfl (.cons rfl (.cons rfl (.cons rfl (.cons rfl (.cons rfl (.cons rfl .nil))))))))))) (Gx.norm (l' := []) rfl ?_)
    refine Gx.seq ?_
    refine Gx.region ?_
    refine Gx.val rfl rfl rfl (val_lss rfl rfl rfl) ?_
    refine Gx.done ?_
    refine Gx.thenN ?_
    refine Gx.seq ?_
    refine Gx.dec rfl (fun h2 => ?_) (fun h2 => ?_)
    · refine Gx.skip ?_
      refine Gx.thenN ?_
      refine Gx.seq ?_
      refine Gx.block ?_
      refine Gx.seq ?_
      refine Gx.region ?_
      obtain ⟨x3, hx3⟩ := get_of_lt (xs := l) (k := j) (by omega)
      refine Gx.val rfl rfl rfl (val_ixa rfl Try.underlying22 Try.ty38 rfl rfl (j := j) (rfl) (reach_base h.sl hx3)) ?_
      refine Gx.val rfl rfl rfl (Val.cast (val_loadA rfl Try.ty38 rfl rfl rfl (cells_base h.sl hx3)) (v' := .agg #[.int .i64 x3.who, .bool x3.all, .slice x3.a x3.n x3.c]) rfl) ?_
      refine Gx.eff rfl rfl rfl (eff_alloc rfl Try.ty38 (vs := [.int .i64 0, .bool false, .slice none 0 0]) rfl) ?_
      rintro _ _ ⟨b4, rfl, rfl⟩
      refine Gx.eff0 rfl rfl (eff_store rfl Try.ty38 rfl rfl (us := [.int .i64 x3.who, .bool x3.all, .slice x3.a x3.n x3.c]) rfl rfl rfl (k := 0) rfl (rfl) (vs' := [.int .i64 x3.who, .bool x3.all, .slice x3.a x3.n x3.c]) (rfl) (l' := [Hp.rec_ b4 [.int .i64 x3.who, .bool x3.all, .slice x3.a x3.n x3.c]]) rfl) ?_
      rintro _ _ rfl
      refine Gx.done ?_
      refine Gx.thenN ?_
      refine Gx.seq ?_
      refine Gx.seq ?_
      have hmem := List.mem_of_getElem? hx3
      have hfx := h.fr x3 hmem
      have hxk := hk.el x3 hmem
      have hx0 := hxk.w0
      have hxl := hxk.lt
      refine Gx.region ?_
      refine Gx.val rfl rfl rfl (Val.cast (val_fieldAddr rfl Try.underlying38 rfl Try.ty3 rfl rfl) (v' := ptr b4 0) rfl) ?_
      refine Gx.val rfl rfl rfl (val_load rfl Try.ty3 rfl rfl (cell_rec (k := 0) rfl rfl)) ?_
      refine Gx.val rfl rfl rfl (val_move rfl rfl) ?_
      refine Gx.val rfl rfl rfl (val_neq rfl rfl rfl) ?_
      refine Gx.done ?_
      refine Gx.thenN ?_
      refine Gx.dec rfl (fun h5 => ?_) (fun h5 => ?_)
      · have hwi : x3.who.toNat ≠ i := by omega
        refine Gx.exit ?_
        refine Gx.thenE ?_
        refine Gx.blkE ?_
        refine Gx.thenN ?_
        refine Gx.region ?_
        refine Gx.val rfl rfl rfl (val_add rfl rfl rfl (r := ((j + 1 : Nat) : Int)) (w64 (by omega) (by omega))) ?_
        refine Gx.val rfl rfl rfl (val_move rfl rfl) ?_
        refine Gx.done ?_
        refine Gx.thenN ?_
        refine Gx.drop 0 rfl ?_
        exact Gx.round (j + 1, bw, ba, bs, be) ⟨by first | omega | (dsimp only; omega), hfr.skip hx3 hwi⟩ (by first | omega | (dsimp only; omega)) ((.cons rfl (.cons rfl (.cons rfl (.cons rfl (.cons rfl (.cons rfl (.cons rfl (.cons rfl (.cons rfl (.cons rfl (.cons rfl .nil)))))))))))) rfl
      · refine Gx.skip ?_
        refine Gx.thenN ?_
        refine Gx.seq ?_
        have hwi : x3.who.toNat = i := by omega
        obtain ⟨ha1, hs1⟩ := hfr.first hk hx3 hwi
        refine Gx.region ?_
        refine Gx.val rfl rfl rfl (val_assign rfl rfl) ?_
        refine Gx.done ?_
        refine Gx.thenN ?_
        refine Gx.seq ?_
        refine Gx.region ?_
        refine Gx.val rfl rfl rfl (Val.cast (val_fieldAddr rfl Try.underlying38 rfl Try.ty4 rfl rfl) (v' := ptr b4 1) rfl) ?_
        refine Gx.val rfl rfl rfl (val_load rfl Try.ty4 rfl rfl (cell_rec (k := 0) rfl rfl)) ?_
        refine Gx.val rfl rfl rfl (val_assign rfl rfl) ?_
        refine Gx.done ?_
        refine Gx.thenN ?_
        refine Gx.seq ?_
        refine Gx.region ?_
        refine Gx.val rfl rfl rfl (Val.cast (val_fieldAddr rfl Try.underlying38 rfl Try.ty24 rfl rfl) (v' := ptr b4 2) rfl) ?_
        refine Gx.val rfl rfl rfl (val_load rfl Try.ty24 rfl rfl (cell_rec (k := 0) rfl rfl)) ?_
        refine Gx.val rfl rfl rfl (val_len rfl Try.underlying24 rfl (len_base hfx)) ?_
        refine Gx.val rfl rfl rfl (val_move rfl rfl) ?_
        refine Gx.done ?_
        refine Gx.thenN ?_
        refine Gx.block ?_
        refine Gx.drop 0 rfl ?_
        refine Gx.loop (ι := Nat × Bool × Bool) (fun ξ => (ξ.1 ≤ x3.fr.length) ∧ (ξ.2.1 = (x3.fr.take ξ.1).all (memI fr)) ∧ (ξ.2.2 = (x3.fr.take ξ.1).any (memI fr))) (fun ξ => [(0, .int .i64 ((n : Nat) : Int)), (1, nv), (2, va), (7, .int .i64 ((i : Nat) : Int)), (8, .bool true), (9, .bool ξ.2.1), (10, .bool ξ.2.2), (11, .bool x3.all), (22, nv), (23, .int .i64 ((l.length : Nat) : Int)), (24, .int .i64 ((j : Nat) : Int)), (35, .slice x3.a x3.n x3.c), (36, .int .i64 ((x3.fr.length : Nat) : Int)), (37, .int .i64 ((ξ.1 : Nat) : Int))]) (fun ξ => []) (fun ξ => x3.fr.length - ξ.1) (0, ba, bs) ⟨by first | omega | (dsimp only; omega), by rw [ha1]; rfl, by rw [hs1]; rfl⟩ ((.cons rfl (.cons rfl (.cons rfl (.cons rfl (.cons rfl (.cons rfl (.cons rfl (.cons rfl (.cons rfl (.cons rfl (.cons rfl (.cons rfl (.cons rfl (.cons rfl .nil))))))))))))))) rfl ?_
        rintro ⟨k, ca, cs⟩ ⟨hk9, hka, hks⟩
        dsimp only at hk9 hka hks
        refine Gx.know (m' := [(0, .int .i64 ((n : Nat) : Int)), (1, nv), (2, va), (7, .int .i64 ((i : Nat) : Int)), (8, .bool true), (9, .bool ca), (10, .bool cs), (11, .bool x3.all), (22, nv), (23, .int .i64 ((l.length : Nat) : Int)), (24, .int .i64 ((j : Nat) : Int)), (35, .slice x3.a x3.n x3.c), (36, .int .i64 ((x3.fr.length : Nat) : Int)), (37, .int .i64 ((k : Nat) : Int))]) (.cons rfl (.cons rfl (.cons rfl (.cons rfl (.cons rfl (.cons rfl (.cons rfl (.cons rfl (.cons rfl (.cons rfl (.cons rfl (.cons rfl (.cons rfl (.cons rfl .nil)))))))))))))) (Gx.norm (l' := []) rfl ?_)
        refine Gx.seq ?_
        refine Gx.region ?_
        refine Gx.val rfl rfl rfl (val_lss rfl rfl rfl) ?_
        refine Gx.done ?_
        refine Gx.thenN ?_
        refine Gx.seq ?_
        refine Gx.dec rfl (fun h6 => ?_) (fun h6 => ?_)
        · refine Gx.skip ?_
          refine Gx.thenN ?_
          refine Gx.seq ?_
          refine Gx.block ?_
          refine Gx.seq ?_
          refine Gx.region ?_
          obtain ⟨x7, hx7⟩ := get_of_lt (xs := x3.fr) (k := k) (by omega)
          refine Gx.val rfl rfl rfl (val_ixa rfl Try.underlying24 Try.ty3 rfl rfl (j := k) (rfl) (reach_base hfx hx7)) ?_
          refine Gx.val rfl rfl rfl (val_load rfl Try.ty3 rfl rfl (cell_base (i := 0) hfx hx7 rfl)) ?_
          refine Gx.val rfl rfl rfl (val_assign rfl rfl) ?_
          refine Gx.done ?_
          refine Gx.thenN ?_
          refine Gx.seq ?_
          have hxf := hxk.fr x7 (List.mem_of_getElem? hx7)
          obtain ⟨kq, hkq⟩ : ∃ kq : Nat, x7 = (kq : Int) := ⟨x7.toNat, by omega⟩
          refine Gx.slot (t := 15) (v := .int .i64 ((kq : Nat) : Int)) (congrArg some (congrArg (Value.int .i64) hkq)) ?_
          refine Gx.region ?_
          refine Gx.val rfl rfl rfl (val_move rfl rfl) ?_
          refine Gx.val rfl rfl rfl (val_move rfl rfl) ?_
          refine Gx.val rfl rfl rfl (val_call (vs := [va, .int .i64 ((kq : Nat) : Int)]) rfl Try.fn14 rfl (fun w H => pos_any (ha.below H.below))) ?_
          refine Gx.val rfl rfl rfl (val_geq rfl rfl rfl) ?_
          refine Gx.val rfl rfl rfl (val_assign rfl rfl) ?_
          refine Gx.done ?_
          refine Gx.thenN ?_
          refine Gx.seq ?_
          refine Gx.region ?_
          refine Gx.val rfl rfl rfl (val_move rfl rfl) ?_
          refine Gx.val rfl rfl rfl (val_move rfl rfl) ?_
          refine Gx.casesB (t := 46) rfl (fun h8 => ?_) (fun h8 => ?_)
          · refine Gx.valg rfl rfl rfl rfl rfl (val_move rfl rfl) ?_
            refine Gx.val rfl rfl rfl (val_pickT rfl rfl rfl) ?_
            refine Gx.val rfl rfl rfl (val_assign rfl rfl) ?_
            refine Gx.done ?_
            refine Gx.thenN ?_
            refine Gx.region ?_
            refine Gx.val rfl rfl rfl (val_move rfl rfl) ?_
            refine Gx.val rfl rfl rfl (val_move rfl rfl) ?_
            refine Gx.casesB (t := 50) rfl (fun h9 => ?_) (fun h9 => ?_)
            · refine Gx.skipg rfl rfl rfl rfl rfl rfl ?_
              refine Gx.val rfl rfl rfl (val_pickT rfl rfl rfl) ?_
              refine Gx.val rfl rfl rfl (val_assign rfl rfl) ?_
              refine Gx.done ?_
              refine Gx.blkN ?_
              refine Gx.thenN ?_
              refine Gx.region ?_
              refine Gx.val rfl rfl rfl (val_add rfl rfl rfl (r := ((k + 1 : Nat) : Int)) (w64 (by omega) (by omega))) ?_
              refine Gx.val rfl rfl rfl (val_move rfl rfl) ?_
              refine Gx.done ?_
              refine Gx.thenN ?_
              have hm9 : memI fr x7 = decide (0 ≤ posI fr kq) := by unfold memI; rw [hkq, Int.toNat_natCast]
              have hta : (x3.fr.take (k + 1)).all (memI fr) = ((x3.fr.take k).all (memI fr) && memI fr x7) := by rw [take_of hx7, List.all_append]; simp
              have hts : (x3.fr.take (k + 1)).any (memI fr) = ((x3.fr.take k).any (memI fr) || memI fr x7) := by rw [take_of hx7, List.any_append]; simp
              exact Gx.round (k + 1, decide (0 ≤ posI fr kq), true) ⟨by first | omega | (dsimp only; omega), by dsimp only; rw [hta, ← hka, hm9]; simp_all, by dsimp only; rw [hts, ← hks, hm9]; simp_all⟩ (by first | omega | (dsimp only; omega)) ((.cons rfl (.cons rfl (.cons rfl (.cons rfl (.cons rfl (.cons rfl (.cons rfl (.cons rfl (.cons rfl (.cons rfl (.cons rfl (.cons rfl (.cons rfl (.cons rfl .nil))))))))))))))) rfl
            · refine Gx.valg rfl rfl rfl rfl rfl (val_move rfl rfl) ?_
              refine Gx.val rfl rfl rfl (val_pickF rfl rfl rfl) ?_
              refine Gx.val rfl rfl rfl (val_assign rfl rfl) ?_
              refine Gx.done ?_
              refine Gx.blkN ?_
              refine Gx.thenN ?_
              refine Gx.region ?_
              refine Gx.val rfl rfl rfl (val_add rfl rfl rfl (r := ((k + 1 : Nat) : Int)) (w64 (by omega) (by omega))) ?_
              refine Gx.val rfl rfl rfl (val_move rfl rfl) ?_
              refine Gx.done ?_
              refine Gx.thenN ?_
              have hm9 : memI fr x7 = decide (0 ≤ posI fr kq) := by unfold memI; rw [hkq, Int.toNat_natCast]
              have hta : (x3.fr.take (k + 1)).all (memI fr) = ((x3.fr.take k).all (memI fr) && memI fr x7) := by rw [take_of hx7, List.all_append]; simp
              have hts : (x3.fr.take (k + 1)).any (memI fr) = ((x3.fr.take k).any (memI fr) || memI fr x7) := by rw [take_of hx7, List.any_append]; simp
              exact Gx.round (k + 1, decide (0 ≤ posI fr kq), decide (0 ≤ posI fr kq)) ⟨by first | omega | (dsimp only; omega), by dsimp only; rw [hta, ← hka, hm9]; simp_all, by dsimp only; rw [hts, ← hks, hm9]; simp_all⟩ (by first | omega | (dsimp only; omega)) ((.cons rfl (.cons rfl (.cons rfl (.cons rfl (.cons rfl (.cons rfl (.cons rfl (.cons rfl (.cons rfl (.cons rfl (.cons rfl (.cons rfl (.cons rfl (.cons rfl .nil))))))))))))))) rfl
          · refine Gx.skipg rfl rfl rfl rfl rfl rfl ?_
            refine Gx.val rfl rfl rfl (val_pickF rfl rfl rfl) ?_
            refine Gx.val rfl rfl rfl (val_assign rfl rfl) ?_
            refine Gx.done ?_
            refine Gx.thenN ?_
            refine Gx.region ?_
            refine Gx.val rfl rfl rfl (val_move rfl rfl) ?_
            refine Gx.val rfl rfl rfl (val_move rfl rfl) ?_
            refine Gx.casesB (t := 50) rfl (fun h10 => ?_) (fun h10 => ?_)
            · refine Gx.skipg rfl rfl rfl rfl rfl rfl ?_
              refine Gx.val rfl rfl rfl (val_pickT rfl rfl rfl) ?_
              refine Gx.val rfl rfl rfl (val_assign rfl rfl) ?_
              refine Gx.done ?_
              refine Gx.blkN ?_
              refine Gx.thenN ?_
              refine Gx.region ?_
              refine Gx.val rfl rfl rfl (val_add rfl rfl rfl (r := ((k + 1 : Nat) : Int)) (w64 (by omega) (by omega))) ?_
              refine Gx.val rfl rfl rfl (val_move rfl rfl) ?_
              refine Gx.done ?_
              refine Gx.thenN ?_
              have hm9 : memI fr x7 = decide (0 ≤ posI fr kq) := by unfold memI; rw [hkq, Int.toNat_natCast]
              have hta : (x3.fr.take (k + 1)).all (memI fr) = ((x3.fr.take k).all (memI fr) && memI fr x7) := by rw [take_of hx7, List.all_append]; simp
              have hts : (x3.fr.take (k + 1)).any (memI fr) = ((x3.fr.take k).any (memI fr) || memI fr x7) := by rw [take_of hx7, List.any_append]; simp
              exact Gx.round (k + 1, false, true) ⟨by first | omega | (dsimp only; omega), by dsimp only; rw [hta, ← hka, hm9]; simp_all, by dsimp only; rw [hts, ← hks, hm9]; simp_all⟩ (by first | omega | (dsimp only; omega)) ((.cons rfl (.cons rfl (.cons rfl (.cons rfl (.cons rfl (.cons rfl (.cons rfl (.cons rfl (.cons rfl (.cons rfl (.cons rfl (.cons rfl (.cons rfl (.cons rfl .nil))))))))))))))) rfl
            · refine Gx.valg rfl rfl rfl rfl rfl (val_move rfl rfl) ?_
              refine Gx.val rfl rfl rfl (val_pickF rfl rfl rfl) ?_
              refine Gx.val rfl rfl rfl (val_assign rfl rfl) ?_
              refine Gx.done ?_
              refine Gx.blkN ?_
              refine Gx.thenN ?_
              refine Gx.region ?_
              refine Gx.val rfl rfl rfl (val_add rfl rfl rfl (r := ((k + 1 : Nat) : Int)) (w64 (by omega) (by omega))) ?_
              refine Gx.val rfl rfl rfl (val_move rfl rfl) ?_
              refine Gx.done ?_
              refine Gx.thenN ?_
              have hm9 : memI fr x7 = decide (0 ≤ posI fr kq) := by unfold memI; rw [hkq, Int.toNat_natCast]
              have hta : (x3.fr.take (k + 1)).all (memI fr) = ((x3.fr.take k).all (memI fr) && memI fr x7) := by rw [take_of hx7, List.all_append]; simp
              have hts : (x3.fr.take (k + 1)).any (memI fr) = ((x3.fr.take k).any (memI fr) || memI fr x7) := by rw [take_of hx7, List.any_append]; simp
              exact Gx.round (k + 1, false, decide (0 ≤ posI fr kq)) ⟨by first | omega | (dsimp only; omega), by dsimp only; rw [hta, ← hka, hm9]; simp_all, by dsimp only; rw [hts, ← hks, hm9]; simp_all⟩ (by first | omega | (dsimp only; omega)) ((.cons rfl (.cons rfl (.cons rfl (.cons rfl (.cons rfl (.cons rfl (.cons rfl (.cons rfl (.cons rfl (.cons rfl (.cons rfl (.cons rfl (.cons rfl (.cons rfl .nil))))))))))))))) rfl
        · refine Gx.exit ?_
          refine Gx.thenE ?_
          refine Gx.thenE ?_
          refine Gx.blkE ?_
          refine Gx.blkN ?_
          refine Gx.thenN ?_
          refine Gx.region ?_
          refine Gx.val rfl rfl rfl (val_add rfl rfl rfl (r := ((j + 1 : Nat) : Int)) (w64 (by omega) (by omega))) ?_
          refine Gx.val rfl rfl rfl (val_move rfl rfl) ?_
          refine Gx.done ?_
          refine Gx.thenN ?_
          exact Gx.round (j + 1, true, ca, cs, x3.all) ⟨by first | omega | (dsimp only; omega), by obtain rfl : k = x3.fr.length := (by omega); rw [List.take_length] at hka hks; rw [hka, hks]; exact FrI.hit hx3 hwi⟩ (by first | omega | (dsimp only; omega)) ((.cons rfl (.cons rfl (.cons rfl (.cons rfl (.cons rfl (.cons rfl (.cons rfl (.cons rfl (.cons rfl (.cons rfl (.cons rfl .nil)))))))))))) rfl
    · refine Gx.exit ?_
      refine Gx.thenE ?_
      refine Gx.thenE ?_
      refine Gx.blkE ?_
      refine Gx.thenN ?_
      refine Gx.seq ?_
      obtain rfl : j = l.length := by omega
      have hM := hfr.must hk
      refine Gx.region ?_
      refine Gx.val rfl rfl rfl (val_move rfl rfl) ?_
      refine Gx.val rfl rfl rfl (val_not rfl rfl) ?_
      refine Gx.val rfl rfl rfl (val_move rfl rfl) ?_
      refine Gx.casesB (t := 57) rfl (fun h11 => ?_) (fun h11 => ?_)
      · refine Gx.skipg rfl rfl rfl rfl rfl rfl ?_
        refine Gx.skipg rfl rfl rfl rfl rfl rfl ?_
        refine Gx.skipu rfl rfl rfl rfl rfl ?_
        refine Gx.skipg rfl rfl rfl rfl rfl rfl ?_
        refine Gx.val rfl rfl rfl (val_pickT rfl rfl rfl) ?_
        refine Gx.val rfl rfl rfl (val_move rfl rfl) ?_
        refine Gx.skipg rfl rfl rfl rfl rfl rfl ?_
        refine Gx.skipg rfl rfl rfl rfl rfl rfl ?_
        refine Gx.skipg rfl rfl rfl rfl rfl rfl ?_
        refine Gx.skipu rfl rfl rfl rfl rfl ?_
        refine Gx.skipg rfl rfl rfl rfl rfl rfl ?_
        refine Gx.val rfl rfl rfl (val_pickT rfl rfl rfl) ?_
        refine Gx.val rfl rfl rfl (val_move rfl rfl) ?_
        refine Gx.valg rfl rfl rfl rfl rfl (val_move rfl rfl) ?_
        refine Gx.valg rfl rfl rfl rfl rfl (val_move rfl rfl) ?_
        refine Gx.valg rfl rfl rfl rfl rfl (val_call (vs := [va, .int .i64 ((i : Nat) : Int)]) rfl Try.fn14 rfl (fun w H => pos_any (ha.below H.below))) ?_
        refine Gx.valg rfl rfl rfl rfl rfl (val_lss rfl rfl rfl) ?_
        refine Gx.val rfl rfl rfl (val_pickT rfl rfl rfl) ?_
        refine Gx.done ?_
        refine Gx.thenN ?_
        refine Gx.dec rfl (fun h12 => ?_) (fun h12 => ?_)
        · refine Gx.seq ?_
          refine Gx.region ?_
          refine Gx.val rfl rfl rfl (val_assign rfl rfl) ?_
          refine Gx.done ?_
          refine Gx.thenN ?_
          refine Gx.ret ?_
          refine Gx.blkR ?_
          refine Gx.thenR ?_
          refine Gx.thenR ?_
          refine Gx.blkR ?_
          refine Gx.thenR ?_
          refine Gx.ret1 Try.results12 rfl ?_
          refine ⟨false, rfl, ⟨fun h9 => (by cases h9), fun hc9 => ?_⟩⟩
          exfalso
          have hm9 : Must l (· ∈ fr) i := hM.2 (by simp_all)
          have h7 := posI_ge.2 (hc9 i (by omega) hm9)
          omega
        · refine Gx.skip ?_
          refine Gx.blkN ?_
          refine Gx.thenN ?_
          refine Gx.region ?_
          refine Gx.val rfl rfl rfl (val_move rfl rfl) ?_
          refine Gx.val rfl rfl rfl (val_add rfl rfl rfl (r := ((i + 1 : Nat) : Int)) (w64 (by omega) (by omega))) ?_
          refine Gx.val rfl rfl rfl (val_assign rfl rfl) ?_
          refine Gx.done ?_
          refine Gx.thenN ?_
          exact Gx.round (i + 1) ⟨by first | omega | (dsimp only; omega), fun q hq hm9 => by
              rcases Nat.lt_or_eq_of_le (Nat.le_of_lt_succ hq) with z | rfl
              · exact hcl q z hm9
              · have h8 := hM.1 hm9
                by_cases hp : 0 ≤ posI fr q
                · exact posI_ge.1 hp
                · exfalso
                  have hp2 : posI fr q < 0 := by omega
                  simp_all⟩ (by first | omega | (dsimp only; omega)) ((.cons rfl (.cons rfl (.cons rfl (.cons rfl .nil))))) rfl
      · refine Gx.valg rfl rfl rfl rfl rfl (val_move rfl rfl) ?_
        refine Gx.valg rfl rfl rfl rfl rfl (val_move rfl rfl) ?_
        refine Gx.casesB (t := 59) rfl (fun h13 => ?_) (fun h13 => ?_)
        · refine Gx.valg rfl rfl rfl rfl rfl (val_move rfl rfl) ?_
          refine Gx.valg rfl rfl rfl rfl rfl (val_pickT rfl rfl rfl) ?_
          refine Gx.val rfl rfl rfl (val_pickF rfl rfl rfl) ?_
          refine Gx.val rfl rfl rfl (val_move rfl rfl) ?_
          refine Gx.casesB (t := 63) rfl (fun h14 => ?_) (fun h14 => ?_)
          · refine Gx.skipg rfl rfl rfl rfl rfl rfl ?_
            refine Gx.skipg rfl rfl rfl rfl rfl rfl ?_
            refine Gx.skipg rfl rfl rfl rfl rfl rfl ?_
            refine Gx.skipu rfl rfl rfl rfl rfl ?_
            refine Gx.skipg rfl rfl rfl rfl rfl rfl ?_
            refine Gx.val rfl rfl rfl (val_pickT rfl rfl rfl) ?_
            refine Gx.val rfl rfl rfl (val_move rfl rfl) ?_
            refine Gx.valg rfl rfl rfl rfl rfl (val_move rfl rfl) ?_
            refine Gx.valg rfl rfl rfl rfl rfl (val_move rfl rfl) ?_
            refine Gx.valg rfl rfl rfl rfl rfl (val_call (vs := [va, .int .i64 ((i : Nat) : Int)]) rfl Try.fn14 rfl (fun w H => pos_any (ha.below H.below))) ?_
            refine Gx.valg rfl rfl rfl rfl rfl (val_lss rfl rfl rfl) ?_
            refine Gx.val rfl rfl rfl (val_pickT rfl rfl rfl) ?_
            refine Gx.done ?_
            refine Gx.thenN ?_
            refine Gx.dec rfl (fun h15 => ?_) (fun h15 => ?_)
            · refine Gx.seq ?_
              refine Gx.region ?_
              refine Gx.val rfl rfl rfl (val_assign rfl rfl) ?_
              refine Gx.done ?_
              refine Gx.thenN ?_
              refine Gx.ret ?_
              refine Gx.blkR ?_
              refine Gx.thenR ?_
              refine Gx.thenR ?_
              refine Gx.blkR ?_
              refine Gx.thenR ?_
              refine Gx.ret1 Try.results12 rfl ?_
              refine ⟨false, rfl, ⟨fun h9 => (by cases h9), fun hc9 => ?_⟩⟩
              exfalso
              have hm9 : Must l (· ∈ fr) i := hM.2 (by simp_all)
              have h7 := posI_ge.2 (hc9 i (by omega) hm9)
              omega
            · refine Gx.skip ?_
              refine Gx.blkN ?_
              refine Gx.thenN ?_
              refine Gx.region ?_
              refine Gx.val rfl rfl rfl (val_move rfl rfl) ?_
              refine Gx.val rfl rfl rfl (val_add rfl rfl rfl (r := ((i + 1 : Nat) : Int)) (w64 (by omega) (by omega))) ?_
              refine Gx.val rfl rfl rfl (val_assign rfl rfl) ?_
              refine Gx.done ?_
              refine Gx.thenN ?_
              exact Gx.round (i + 1) ⟨by first | omega | (dsimp only; omega), fun q hq hm9 => by
                  rcases Nat.lt_or_eq_of_le (Nat.le_of_lt_succ hq) with z | rfl
                  · exact hcl q z hm9
                  · have h8 := hM.1 hm9
                    by_cases hp : 0 ≤ posI fr q
                    · exact posI_ge.1 hp
                    · exfalso
                      have hp2 : posI fr q < 0 := by omega
                      simp_all⟩ (by first | omega | (dsimp only; omega)) ((.cons rfl (.cons rfl (.cons rfl (.cons rfl .nil))))) rfl
          · refine Gx.valg rfl rfl rfl rfl rfl (val_move rfl rfl) ?_
            refine Gx.valg rfl rfl rfl rfl rfl (val_not rfl rfl) ?_
            refine Gx.valg rfl rfl rfl rfl rfl (val_move rfl rfl) ?_
            refine Gx.slot (t := 66) (v := .bool false) (look_boolF rfl (by simp [h13])) ?_
            refine Gx.skipg rfl rfl rfl rfl rfl rfl ?_
            refine Gx.valg rfl rfl rfl rfl rfl (val_pickF rfl rfl rfl) ?_
            refine Gx.val rfl rfl rfl (val_pickF rfl rfl rfl) ?_
            refine Gx.val rfl rfl rfl (val_move rfl rfl) ?_
            refine Gx.skipg rfl rfl rfl rfl rfl rfl ?_
            refine Gx.skipg rfl rfl rfl rfl rfl rfl ?_
            refine Gx.skipg rfl rfl rfl rfl rfl rfl ?_
            refine Gx.skipg rfl rfl rfl rfl rfl rfl ?_
            refine Gx.val rfl rfl rfl (val_pickF rfl rfl rfl) ?_
            refine Gx.done ?_
            refine Gx.thenN ?_
            refine Gx.f rfl ?_
            refine Gx.skip ?_
            refine Gx.blkN ?_
            refine Gx.thenN ?_
            refine Gx.region ?_
            refine Gx.val rfl rfl rfl (val_move rfl rfl) ?_
            refine Gx.val rfl rfl rfl (val_add rfl rfl rfl (r := ((i + 1 : Nat) : Int)) (w64 (by omega) (by omega))) ?_
            refine Gx.val rfl rfl rfl (val_assign rfl rfl) ?_
            refine Gx.done ?_
            refine Gx.thenN ?_
            exact Gx.round (i + 1) ⟨by first | omega | (dsimp only; omega), fun q hq hm9 => by
                rcases Nat.lt_or_eq_of_le (Nat.le_of_lt_succ hq) with z | rfl
                · exact hcl q z hm9
                · have h8 := hM.1 hm9
                  by_cases hp : 0 ≤ posI fr q
                  · exact posI_ge.1 hp
                  · exfalso
                    have hp2 : posI fr q < 0 := by omega
                    simp_all⟩ (by first | omega | (dsimp only; omega)) ((.cons rfl (.cons rfl (.cons rfl (.cons rfl .nil))))) rfl
        · refine Gx.skipg rfl rfl rfl rfl rfl rfl ?_
          refine Gx.valg rfl rfl rfl rfl rfl (val_pickF rfl rfl rfl) ?_
          refine Gx.val rfl rfl rfl (val_pickF rfl rfl rfl) ?_
          refine Gx.val rfl rfl rfl (val_move rfl rfl) ?_
          refine Gx.valg rfl rfl rfl rfl rfl (val_move rfl rfl) ?_
          refine Gx.valg rfl rfl rfl rfl rfl (val_not rfl rfl) ?_
          refine Gx.valg rfl rfl rfl rfl rfl (val_move rfl rfl) ?_
          refine Gx.slot (t := 66) (v := .bool true) (look_boolT rfl (by simp [h13])) ?_
          refine Gx.valg rfl rfl rfl rfl rfl (val_move rfl rfl) ?_
          refine Gx.valg rfl rfl rfl rfl rfl (val_pickT rfl rfl rfl) ?_
          refine Gx.val rfl rfl rfl (val_pickF rfl rfl rfl) ?_
          refine Gx.val rfl rfl rfl (val_move rfl rfl) ?_
          refine Gx.casesB (t := 70) rfl (fun h16 => ?_) (fun h16 => ?_)
          · refine Gx.valg rfl rfl rfl rfl rfl (val_move rfl rfl) ?_
            refine Gx.valg rfl rfl rfl rfl rfl (val_move rfl rfl) ?_
            refine Gx.valg rfl rfl rfl rfl rfl (val_call (vs := [va, .int .i64 ((i : Nat) : Int)]) rfl Try.fn14 rfl (fun w H => pos_any (ha.below H.below))) ?_
            refine Gx.valg rfl rfl rfl rfl rfl (val_lss rfl rfl rfl) ?_
            refine Gx.val rfl rfl rfl (val_pickT rfl rfl rfl) ?_
            refine Gx.done ?_
            refine Gx.thenN ?_
            refine Gx.dec rfl (fun h17 => ?_) (fun h17 => ?_)
            · refine Gx.seq ?_
              refine Gx.region ?_
              refine Gx.val rfl rfl rfl (val_assign rfl rfl) ?_
              refine Gx.done ?_
              refine Gx.thenN ?_
              refine Gx.ret ?_
              refine Gx.blkR ?_
              refine Gx.thenR ?_
              refine Gx.thenR ?_
              refine Gx.blkR ?_
              refine Gx.thenR ?_
              refine Gx.ret1 Try.results12 rfl ?_
              refine ⟨false, rfl, ⟨fun h9 => (by cases h9), fun hc9 => ?_⟩⟩
              exfalso
              have hm9 : Must l (· ∈ fr) i := hM.2 (by simp_all)
              have h7 := posI_ge.2 (hc9 i (by omega) hm9)
              omega
            · refine Gx.skip ?_
              refine Gx.blkN ?_
              refine Gx.thenN ?_
              refine Gx.region ?_
              refine Gx.val rfl rfl rfl (val_move rfl rfl) ?_
              refine Gx.val rfl rfl rfl (val_add rfl rfl rfl (r := ((i + 1 : Nat) : Int)) (w64 (by omega) (by omega))) ?_
              refine Gx.val rfl rfl rfl (val_assign rfl rfl) ?_
              refine Gx.done ?_
              refine Gx.thenN ?_
              exact Gx.round (i + 1) ⟨by first | omega | (dsimp only; omega), fun q hq hm9 => by
                  rcases Nat.lt_or_eq_of_le (Nat.le_of_lt_succ hq) with z | rfl
                  · exact hcl q z hm9
                  · have h8 := hM.1 hm9
                    by_cases hp : 0 ≤ posI fr q
                    · exact posI_ge.1 hp
                    · exfalso
                      have hp2 : posI fr q < 0 := by omega
                      simp_all⟩ (by first | omega | (dsimp only; omega)) ((.cons rfl (.cons rfl (.cons rfl (.cons rfl .nil))))) rfl
          · refine Gx.skipg rfl rfl rfl rfl rfl rfl ?_
            refine Gx.skipg rfl rfl rfl rfl rfl rfl ?_
            refine Gx.skipg rfl rfl rfl rfl rfl rfl ?_
            refine Gx.skipg rfl rfl rfl rfl rfl rfl ?_
            refine Gx.val rfl rfl rfl (val_pickF rfl rfl rfl) ?_
            refine Gx.done ?_
            refine Gx.thenN ?_
            refine Gx.f rfl ?_
            refine Gx.skip ?_
            refine Gx.blkN ?_
            refine Gx.thenN ?_
            refine Gx.region ?_
            refine Gx.val rfl rfl rfl (val_move rfl rfl) ?_
            refine Gx.val rfl rfl rfl (val_add rfl rfl rfl (r := ((i + 1 : Nat) : Int)) (w64 (by omega) (by omega))) ?_
            refine Gx.val rfl rfl rfl (val_assign rfl rfl) ?_
            refine Gx.done ?_
            refine Gx.thenN ?_
            exact Gx.round (i + 1) ⟨by first | omega | (dsimp only; omega), fun q hq hm9 => by
                rcases Nat.lt_or_eq_of_le (Nat.le_of_lt_succ hq) with z | rfl
                · exact hcl q z hm9
                · have h8 := hM.1 hm9
                  by_cases hp : 0 ≤ posI fr q
                  · exact posI_ge.1 hp
                  · exfalso
                    have hp2 : posI fr q < 0 := by omega
                    simp_all⟩ (by first | omega | (dsimp only; omega)) ((.cons rfl (.cons rfl (.cons rfl (.cons rfl .nil))))) rfl
  · refine Gx.exit ?_
    refine Gx.thenE ?_
    refine Gx.thenE ?_
    refine Gx.blkE ?_
    refine Gx.thenN ?_
    refine Gx.seq ?_
    refine Gx.region ?_
    refine Gx.val rfl rfl rfl (val_assign rfl rfl) ?_
    refine Gx.done ?_
    refine Gx.thenN ?_
    refine Gx.ret ?_
    refine Gx.ret1 Try.results12 rfl ?_
    obtain rfl : i = n := by omega
    exact ⟨true, rfl, ⟨fun _ => hcl, fun _ => rfl⟩⟩

end Go.Proofs.Ytplcflifofomjaa
