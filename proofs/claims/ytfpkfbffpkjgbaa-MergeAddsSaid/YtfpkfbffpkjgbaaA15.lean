/- A script played, to be read. No condition. -/
import Derived.Test.YtfpkfbffpkjgbaaA14
namespace Go.Proofs.Ytfpkfbffpkjgbaa
open Go.RowKit
set_option linter.unusedVariables false
set_option linter.unusedSimpArgs false
set_option maxRecDepth 100000

theorem play_ok {W : World} {n : Nat} {sv : Value} {xs : List Sy} (h1n : 1 ≤ n) (h6n : n ≤ 6) (hs : SlS FY 5 W sv xs) (hcx : xs.length ≤ 120) :
    Calls Try.prog 12 #[.int .i64 ((n : Nat) : Int), sv] W fun e w' => ∃ v, e = .returned v ∧ (∃ (av cv : Value) (ms : List Cm), v = .tuple #[av, cv, .int .i64 0] ∧ ms.map Cm.c = stM n (ms0 n) xs ∧ SlS FC 6 w' av ms ∧ SlS FE 1 w' cv (codesM n (ms0 n) xs) ∧ ∀ m ∈ ms, RowsS w' m) ∧ Below W.heap.size W w' := by
  refine (play_raw h1n h6n hs hcx).mono ?_
  rintro e w' ⟨_, _, rfl, ⟨av, cv, ms, h1, h2, rfl, h3, rfl⟩, H⟩
  have hb := BdM.run xs (BdM.start h1n) (Int.le_refl 0)
  rw [← h3] at hb
  have hl := hb.len
  rw [List.length_map] at hl
  exact ⟨_, rfl, ⟨av, cv, ms, rfl, h3, (H.at_ (k := 0) rfl).sls (by omega), (H.at_ (k := 2) rfl).sls (by rw [codesM_len]; omega), big_rows (H.at_ (k := 1) rfl) (own_rows hb h6n)⟩, H.below⟩
end Go.Proofs.Ytfpkfbffpkjgbaa
