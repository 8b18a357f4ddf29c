/- The elements as they come in. -/
import Derived.Test.YtfpkfbffpkjgbaaB1
import Derived.Test.YtfpkfbffpkjgbaaW1
namespace Go.Proofs.Ytfpkfbffpkjgbaa
open Go.ChangeShapes Go.WideShapes Go.ChangeAt Go.RowKit Go.Deep
set_option maxRecDepth 100000

def Try.bytes42 : Nat := 40
theorem Try.bytesEq42 : Try.prog.bytesOf 42 = Try.bytes42 := by kernel_rfl
theorem Try.open34 {H : Type} {enc : TypeId × Value → H} {w : World} {a : Option Addr} {len cap : Nat} {d : DataW H} {p : List MemPlace} (h : DataW.Trod enc Try.prog w 0 (fun _ => true) true 34 (.slice a len cap) d p) (hsz : len ≤ 140737488355328) :
    ∃ xs, SlS FY 5 w (.slice a len cap) xs ∧ ∀ t ∈ xs, True := by
  refine sls_of FY (fun _ => True) Try.underlying34 (show Try.prog.cellsOf 42 = 5 from by kernel_rfl) (by decide) (fun n cs y hy => ?_) h hsz
  obtain ⟨hl, m, hf⟩ := fields_of Try.underlying42 hy
  obtain ⟨y0, h0⟩ := hf 0 _ rfl
  obtain ⟨y1, h1⟩ := hf 1 _ rfl
  obtain ⟨y2, h2⟩ := hf 2 _ rfl
  obtain ⟨y3, h3⟩ := hf 3 _ rfl
  obtain ⟨y4, h4⟩ := hf 4 _ rfl
  obtain ⟨x0, e0, _⟩ := field_int (off := 0) Try.underlying3 (show DataW.trod enc Try.prog w 0 (fun _ => true) true m 3 ((cs.drop 0).take 1) = some y0 from h0)
  obtain ⟨x1, e1, _⟩ := field_int (off := 1) Try.underlying3 (show DataW.trod enc Try.prog w 0 (fun _ => true) true m 3 ((cs.drop 1).take 1) = some y1 from h1)
  obtain ⟨x2, e2, _⟩ := field_int (off := 2) Try.underlying3 (show DataW.trod enc Try.prog w 0 (fun _ => true) true m 3 ((cs.drop 2).take 1) = some y2 from h2)
  obtain ⟨x3, e3, _⟩ := field_int (off := 3) Try.underlying3 (show DataW.trod enc Try.prog w 0 (fun _ => true) true m 3 ((cs.drop 3).take 1) = some y3 from h3)
  obtain ⟨x4, e4, _⟩ := field_int (off := 4) Try.underlying2 (show DataW.trod enc Try.prog w 0 (fun _ => true) true m 2 ((cs.drop 4).take 1) = some y4 from h4)
  refine ⟨⟨x0, x1, x2, x3, x4⟩, ?_, trivial⟩
  have hln : cs.length = 5 := by rw [hl]; kernel_rfl
  match cs, hln, e0, e1, e2, e3, e4 with
  | [c0, c1, c2, c3, c4], _, e0, e1, e2, e3, e4 =>
    simp at e0 e1 e2 e3 e4
    subst e0 e1 e2 e3 e4
    rfl
end Go.Proofs.Ytfpkfbffpkjgbaa
