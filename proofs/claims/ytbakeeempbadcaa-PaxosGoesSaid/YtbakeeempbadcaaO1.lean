/- The script as it comes in. -/
import Derived.Test.YtbakeeempbadcaaA6
import Derived.Test.YtbakeeempbadcaaS4
namespace Go.Proofs.Ytbakeeempbadcaa
open Go.ChangeShapes Go.WideShapes Go.ChangeAt Go.RowKit Go.Deep

def Try.bytes34 : Nat := 32
theorem Try.bytesEq34 : Try.prog.bytesOf 34 = Try.bytes34 := by kernel_rfl
theorem Try.open22 {H : Type} {enc : TypeId × Value → H} {w : World} {a : Option Addr} {len cap : Nat} {d : DataW H} {p : List MemPlace} (h : DataW.Trod enc Try.prog w 0 (fun _ => true) true 22 (.slice a len cap) d p) (hsz : len ≤ 140737488355328) :
    ∃ xs, SlS FT 4 w (.slice a len cap) xs ∧ ∀ t ∈ xs, (Lit.int .i64 t.ballot).wf = true := by
  refine sls_of FT (fun t => (Lit.int .i64 t.ballot).wf = true) Try.underlying22 (show Try.prog.cellsOf 34 = 4 from by kernel_rfl) (by decide) (fun n cs y hy => ?_) h hsz
  obtain ⟨hl, m, hf⟩ := fields_of Try.underlying34 hy
  obtain ⟨y0, h0⟩ := hf 0 _ rfl
  obtain ⟨y1, h1⟩ := hf 1 _ rfl
  obtain ⟨y2, h2⟩ := hf 2 _ rfl
  obtain ⟨y3, h3⟩ := hf 3 _ rfl
  obtain ⟨x0, e0, _⟩ := field_int (off := 0) Try.underlying3 (show DataW.trod enc Try.prog w 0 (fun _ => true) true m 3 ((cs.drop 0).take 1) = some y0 from h0)
  obtain ⟨x1, e1, g1⟩ := field_int (off := 1) Try.underlying3 (show DataW.trod enc Try.prog w 0 (fun _ => true) true m 3 ((cs.drop 1).take 1) = some y1 from h1)
  obtain ⟨x2, e2, _⟩ := field_int (off := 2) Try.underlying3 (show DataW.trod enc Try.prog w 0 (fun _ => true) true m 3 ((cs.drop 2).take 1) = some y2 from h2)
  obtain ⟨x3, e3, _⟩ := field_int (off := 3) Try.underlying2 (show DataW.trod enc Try.prog w 0 (fun _ => true) true m 2 ((cs.drop 3).take 1) = some y3 from h3)
  refine ⟨⟨x0, x1, x2, x3⟩, ?_, g1⟩
  have hl4 : cs.length = 4 := by rw [hl]; kernel_rfl
  match cs, hl4, e0, e1, e2, e3 with
  | [c0, c1, c2, c3], _, e0, e1, e2, e3 =>
    simp at e0 e1 e2 e3
    subst e0 e1 e2 e3
    rfl
end Go.Proofs.Ytbakeeempbadcaa
