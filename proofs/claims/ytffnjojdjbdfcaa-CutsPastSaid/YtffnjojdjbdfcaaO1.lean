/- The elements as they come in. -/
import Derived.Test.YtffnjojdjbdfcaaA1
import Derived.Test.YtffnjojdjbdfcaaS4
namespace Go.Proofs.Ytffnjojdjbdfcaa
open Go.ChangeShapes Go.WideShapes Go.ChangeAt Go.RowKit Go.Deep

def Try.bytes36 : Nat := 24
theorem Try.bytesEq36 : Try.prog.bytesOf 36 = Try.bytes36 := by kernel_rfl
theorem Try.open22 {H : Type} {enc : TypeId × Value → H} {w : World} {a : Option Addr} {len cap : Nat} {d : DataW H} {p : List MemPlace} (h : DataW.Trod enc Try.prog w 0 (fun _ => true) true 22 (.slice a len cap) d p) (hsz : len ≤ 140737488355328) :
    ∃ xs, SlS FE 3 w (.slice a len cap) xs ∧ ∀ t ∈ xs, True := by
  refine sls_of FE (fun _ => True) Try.underlying22 (show Try.prog.cellsOf 36 = 3 from by kernel_rfl) (by decide) (fun n cs y hy => ?_) h hsz
  obtain ⟨hl, m, hf⟩ := fields_of Try.underlying36 hy
  obtain ⟨y0, h0⟩ := hf 0 _ rfl
  obtain ⟨y1, h1⟩ := hf 1 _ rfl
  obtain ⟨y2, h2⟩ := hf 2 _ rfl
  obtain ⟨x0, e0, _⟩ := field_int (off := 0) Try.underlying3 (show DataW.trod enc Try.prog w 0 (fun _ => true) true m 3 ((cs.drop 0).take 1) = some y0 from h0)
  obtain ⟨x1, e1, _⟩ := field_int (off := 1) Try.underlying3 (show DataW.trod enc Try.prog w 0 (fun _ => true) true m 3 ((cs.drop 1).take 1) = some y1 from h1)
  obtain ⟨x2, e2, _⟩ := field_int (off := 2) Try.underlying3 (show DataW.trod enc Try.prog w 0 (fun _ => true) true m 3 ((cs.drop 2).take 1) = some y2 from h2)
  refine ⟨⟨x0, x1, x2⟩, ?_, trivial⟩
  have hln : cs.length = 3 := by rw [hl]; kernel_rfl
  match cs, hln, e0, e1, e2 with
  | [c0, c1, c2], _, e0, e1, e2 =>
    simp at e0 e1 e2
    subst e0 e1 e2
    rfl
end Go.Proofs.Ytffnjojdjbdfcaa
