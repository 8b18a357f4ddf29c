/- The elements as they come in. -/
import Derived.Test.YtjiefamdpbnngaaA7
import Derived.Test.YtjiefamdpbnngaaS4
namespace Go.Proofs.Ytjiefamdpbnngaa
open Go.ChangeShapes Go.WideShapes Go.ChangeAt Go.RowKit Go.Deep

def Try.bytes24 : Nat := 48
theorem Try.bytesEq24 : Try.prog.bytesOf 24 = Try.bytes24 := by kernel_rfl
theorem Try.open22 {H : Type} {enc : TypeId × Value → H} {w : World} {a : Option Addr} {len cap : Nat} {d : DataW H} {p : List MemPlace} (h : DataW.Trod enc Try.prog w 0 (fun _ => true) true 22 (.slice a len cap) d p) (hsz : len ≤ 140737488355328) :
    ∃ xs, SlS FC 6 w (.slice a len cap) xs ∧ ∀ t ∈ xs, True := by
  refine sls_of FC (fun _ => True) Try.underlying22 (show Try.prog.cellsOf 24 = 6 from by kernel_rfl) (by decide) (fun n cs y hy => ?_) h hsz
  obtain ⟨hl, m, hf⟩ := fields_of Try.underlying24 hy
  obtain ⟨y0, h0⟩ := hf 0 _ rfl
  obtain ⟨y1, h1⟩ := hf 1 _ rfl
  obtain ⟨y2, h2⟩ := hf 2 _ rfl
  obtain ⟨y3, h3⟩ := hf 3 _ rfl
  obtain ⟨y4, h4⟩ := hf 4 _ rfl
  obtain ⟨y5, h5⟩ := hf 5 _ rfl
  obtain ⟨x0, e0, _⟩ := field_int (off := 0) Try.underlying3 (show DataW.trod enc Try.prog w 0 (fun _ => true) true m 3 ((cs.drop 0).take 1) = some y0 from h0)
  obtain ⟨x1, e1, _⟩ := field_int (off := 1) Try.underlying3 (show DataW.trod enc Try.prog w 0 (fun _ => true) true m 3 ((cs.drop 1).take 1) = some y1 from h1)
  obtain ⟨x2, e2, _⟩ := field_int (off := 2) Try.underlying3 (show DataW.trod enc Try.prog w 0 (fun _ => true) true m 3 ((cs.drop 2).take 1) = some y2 from h2)
  obtain ⟨x3, e3, _⟩ := field_int (off := 3) Try.underlying3 (show DataW.trod enc Try.prog w 0 (fun _ => true) true m 3 ((cs.drop 3).take 1) = some y3 from h3)
  obtain ⟨x4, e4⟩ := field_bool (off := 4) Try.underlying4 (show DataW.trod enc Try.prog w 0 (fun _ => true) true m 4 ((cs.drop 4).take 1) = some y4 from h4)
  obtain ⟨x5, e5, _⟩ := field_int (off := 5) Try.underlying2 (show DataW.trod enc Try.prog w 0 (fun _ => true) true m 2 ((cs.drop 5).take 1) = some y5 from h5)
  refine ⟨⟨x0, x1, x2, x3, x4, x5⟩, ?_, trivial⟩
  have hln : cs.length = 6 := by rw [hl]; kernel_rfl
  match cs, hln, e0, e1, e2, e3, e4, e5 with
  | [c0, c1, c2, c3, c4, c5], _, e0, e1, e2, e3, e4, e5 =>
    simp at e0 e1 e2 e3 e4 e5
    subst e0 e1 e2 e3 e4 e5
    rfl
end Go.Proofs.Ytjiefamdpbnngaa
