/- The elements as they come in. -/
import Derived.Test.YteejbaindbiimaaB1
import Derived.Test.YteejbaindbiimaaS4
namespace Go.Proofs.Yteejbaindbiimaa
open Go.ChangeShapes Go.WideShapes Go.ChangeAt Go.RowKit Go.Deep

def Try.bytes34 : Nat := 16
theorem Try.bytesEq34 : Try.prog.bytesOf 34 = Try.bytes34 := by kernel_rfl
theorem Try.open23 {H : Type} {enc : TypeId × Value → H} {w : World} {a : Option Addr} {len cap : Nat} {d : DataW H} {p : List MemPlace} (h : DataW.Trod enc Try.prog w 0 (fun _ => true) true 23 (.slice a len cap) d p) (hsz : len ≤ 140737488355328) :
    ∃ xs, SlS FM 2 w (.slice a len cap) xs ∧ ∀ t ∈ xs, True := by
  refine sls_of FM (fun _ => True) Try.underlying23 (show Try.prog.cellsOf 34 = 2 from by kernel_rfl) (by decide) (fun n cs y hy => ?_) h hsz
  obtain ⟨hl, m, hf⟩ := fields_of Try.underlying34 hy
  obtain ⟨y0, h0⟩ := hf 0 _ rfl
  obtain ⟨y1, h1⟩ := hf 1 _ rfl
  obtain ⟨x0, e0, _⟩ := field_int (off := 0) Try.underlying3 (show DataW.trod enc Try.prog w 0 (fun _ => true) true m 3 ((cs.drop 0).take 1) = some y0 from h0)
  obtain ⟨x1, e1, _⟩ := field_int (off := 1) Try.underlying3 (show DataW.trod enc Try.prog w 0 (fun _ => true) true m 3 ((cs.drop 1).take 1) = some y1 from h1)
  refine ⟨⟨x0, x1⟩, ?_, trivial⟩
  have hln : cs.length = 2 := by rw [hl]; kernel_rfl
  match cs, hln, e0, e1 with
  | [c0, c1], _, e0, e1 =>
    simp at e0 e1
    subst e0 e1
    rfl
end Go.Proofs.Yteejbaindbiimaa
