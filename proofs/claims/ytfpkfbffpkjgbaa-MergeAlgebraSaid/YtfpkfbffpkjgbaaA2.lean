/- Lists of dots that rise. The walks. No condition. -/
import Derived.Test.YtfpkfbffpkjgbaaA1
namespace Go.Proofs.Ytfpkfbffpkjgbaa
open Go.RowKit
set_option linter.unusedVariables false
set_option linter.unusedSimpArgs false
set_option maxRecDepth 100000

/-- a list of dots rises -/
def Rises (xs : List Dt) : Prop := ∀ (i : Nat) (x y : Dt), xs[i]? = some x → xs[i + 1]? = some y → dotC x y < 0
theorem rises_any {W : World} {v : Value} {xs : List Dt} (hs : SlS FD 3 W v xs) : Calls Try.prog 31 #[v] W fun e w' => ∃ u, e = .returned u ∧ (∃ b : Bool, u = .bool b ∧ (b = true ↔ Rises xs)) ∧ Below W.heap.size W w' := by
  have hm9 := sls_bd hs
  refine calls_rel (R := fun v => ∃ b : Bool, v = .bool b ∧ (b = true ↔ Rises xs)) (Gx.enter (l := []) Try.func31 rfl Try.ntmps31 rfl (Sat.start W) ?_)
  refine Gx.know (m' := [(0, v)]) (.cons rfl .nil) ?_
  refine Gx.seq ?_
  refine Gx.region ?_
  refine Gx.val rfl rfl rfl (val_assign rfl rfl) ?_
  refine Gx.done ?_
  refine Gx.thenN ?_
  refine Gx.seq ?_
  refine Gx.seq ?_
  refine Gx.region ?_
  refine Gx.val rfl rfl rfl (val_assign rfl rfl) ?_
  refine Gx.done ?_
  refine Gx.thenN ?_
  refine Gx.block ?_
  refine Gx.loop (ι := Nat) (fun ξ => (1 ≤ ξ ∧ (ξ ≤ xs.length ∨ ξ = 1)) ∧ (∀ (i : Nat) (x y : Dt), i + 1 < ξ → xs[i]? = some x → xs[i + 1]? = some y → dotC x y < 0)) (fun ξ => [(0, v), (2, .bool false), (3, .int .i64 ((ξ : Nat) : Int))]) (fun ξ => []) (fun ξ => xs.length - ξ) 1 ⟨by first | omega | (dsimp only; omega), fun i x y h => absurd h (by omega)⟩ ((.cons rfl (.cons rfl (.cons rfl .nil)))) rfl ?_
  rintro k ⟨hk, h0⟩
  refine Gx.know (m' := [(0, v), (2, .bool false), (3, .int .i64 ((k : Nat) : Int))]) (.cons rfl (.cons rfl (.cons rfl .nil))) (Gx.norm (l' := []) rfl ?_)
  refine Gx.seq ?_
  refine Gx.seq ?_
  refine Gx.region ?_
  refine Gx.val rfl rfl rfl (val_move rfl rfl) ?_
  refine Gx.val rfl rfl rfl (val_move rfl rfl) ?_
  refine Gx.val rfl rfl rfl (val_len rfl Try.underlying25 rfl (len_base hs)) ?_
  refine Gx.val rfl rfl rfl (val_lss rfl rfl rfl) ?_
  refine Gx.done ?_
  refine Gx.thenN ?_
  refine Gx.dec rfl (fun h1 => ?_) (fun h1 => ?_)
  · refine Gx.skip ?_
    refine Gx.thenN ?_
    refine Gx.seq ?_
    refine Gx.block ?_
    refine Gx.seq ?_
    obtain ⟨x, hx⟩ := get_of_lt (xs := xs) (k := k - 1) (by omega)
    obtain ⟨y, hy⟩ := get_of_lt (xs := xs) (k := k) (by omega)
    refine Gx.regionQ Try.mixed (by kernel_rfl) ?_
    refine Gq.val rfl rfl rfl (val_move rfl rfl) ?_
    refine Gq.val rfl rfl rfl (val_move rfl rfl) ?_
    refine Gq.val rfl rfl rfl (val_sub rfl rfl rfl (r := ((k - 1 : Nat) : Int)) (w64 (by omega) (by omega))) ?_
    refine Gq.val rfl rfl rfl (val_ixa rfl Try.underlying25 Try.ty59 rfl rfl (j := k - 1) (rfl) (reach_base hs hx)) ?_
    refine Gq.val rfl rfl rfl (Val.cast (val_loadA rfl Try.ty59 rfl rfl rfl (cells_base (sz := 3) (j := k - 1) hs hx)) (v' := .agg #[.int .i64 x.item, .int .i64 x.who, .int .i64 x.n]) rfl) ?_
    refine Gq.val rfl rfl rfl (val_move rfl rfl) ?_
    refine Gq.val rfl rfl rfl (val_move rfl rfl) ?_
    refine Gq.val rfl rfl rfl (val_ixa rfl Try.underlying25 Try.ty59 rfl rfl (j := k) (rfl) (reach_base hs hy)) ?_
    refine Gq.val rfl rfl rfl (Val.cast (val_loadA rfl Try.ty59 rfl rfl rfl (cells_base hs hy)) (v' := .agg #[.int .i64 y.item, .int .i64 y.who, .int .i64 y.n]) rfl) ?_
    refine Gq.val rfl rfl rfl (val_call (vs := [.agg #[.int .i64 x.item, .int .i64 x.who, .int .i64 x.n], .agg #[.int .i64 y.item, .int .i64 y.who, .int .i64 y.n]]) rfl Try.fn26 rfl (fun w H => dots_any x y)) ?_
    refine Gq.val rfl rfl rfl (val_geq rfl rfl rfl) ?_
    refine Gq.done ?_
    refine Gx.thenN ?_
    refine Gx.dec rfl (fun h2 => ?_) (fun h2 => ?_)
    · refine Gx.seq ?_
      refine Gx.region ?_
      refine Gx.val rfl rfl rfl (val_assign rfl rfl) ?_
      refine Gx.done ?_
      refine Gx.thenN ?_
      refine Gx.ret ?_
      refine Gx.blkR ?_
      refine Gx.thenR ?_
      refine Gx.thenR ?_
      refine Gx.blkR ?_
      refine Gx.thenR ?_
      refine Gx.ret1 Try.results31 rfl ?_
      exact ⟨false, rfl, ⟨fun h => (by cases h), fun h => absurd (h (k - 1) x y hx (by rw [show k - 1 + 1 = k by omega]; exact hy)) (by omega)⟩⟩
    refine Gx.skip ?_
    refine Gx.blkN ?_
    refine Gx.thenN ?_
    refine Gx.region ?_
    refine Gx.val rfl rfl rfl (val_move rfl rfl) ?_
    refine Gx.val rfl rfl rfl (val_add rfl rfl rfl (r := ((k + 1 : Nat) : Int)) (w64 (by omega) (by omega))) ?_
    refine Gx.val rfl rfl rfl (val_assign rfl rfl) ?_
    refine Gx.done ?_
    refine Gx.thenN ?_
    exact Gx.round (k + 1) ⟨by first | omega | (dsimp only; omega), fun i x' y' h1 h2 h3 => by
      by_cases e : i = k - 1
      · subst e; rw [hx] at h2; rw [show k - 1 + 1 = k by omega, hy] at h3; cases h2; cases h3; omega
      · exact h0 i x' y' (by (try dsimp only at h1); omega) h2 h3⟩ (by first | omega | (dsimp only; omega)) ((.cons rfl (.cons rfl (.cons rfl .nil)))) rfl
  refine Gx.exit ?_
  refine Gx.thenE ?_
  refine Gx.thenE ?_
  refine Gx.blkE ?_
  refine Gx.thenN ?_
  refine Gx.seq ?_
  refine Gx.region ?_
  refine Gx.val rfl rfl rfl (val_assign rfl rfl) ?_
  refine Gx.done ?_
  refine Gx.thenN ?_
  refine Gx.ret ?_
  refine Gx.ret1 Try.results31 rfl ?_
  exact ⟨true, rfl, ⟨fun _ i x y h1 h2 => h0 i x y (by have := (List.getElem?_eq_some_iff.1 h2).1; omega) h1 h2, fun _ => rfl⟩⟩

end Go.Proofs.Ytfpkfbffpkjgbaa
