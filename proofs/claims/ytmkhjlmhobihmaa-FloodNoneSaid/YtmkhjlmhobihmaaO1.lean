/- The elements as they come in. -/
import Derived.Test.YtmkhjlmhobihmaaA5
import Derived.Test.YtmkhjlmhobihmaaS4
namespace Go.Proofs.Ytmkhjlmhobihmaa
open Go.ChangeShapes Go.WideShapes Go.ChangeAt Go.RowKit Go.Deep

def Try.bytes30 : Nat := 24
theorem Try.bytesEq30 : Try.prog.bytesOf 30 = Try.bytes30 := by kernel_rfl
theorem Try.open23 {H : Type} {enc : TypeId × Value → H} {w : World} {a : Option Addr} {len cap : Nat} {d : DataW H} {p : List MemPlace} (h : DataW.Trod enc Try.prog w 0 (fun _ => true) true 23 (.slice a len cap) d p) (hsz : len ≤ 140737488355328) :
    ∃ xs, SlS FC 3 w (.slice a len cap) xs ∧ ∀ t ∈ xs, t.to_ < 4294967296 := by
  refine sls_of FC (fun t : Cr => t.to_ < 4294967296) Try.underlying23 (show Try.prog.cellsOf 30 = 3 from by kernel_rfl) (by decide) (fun n cs y hy => ?_) h hsz
  obtain ⟨hl, m, hf⟩ := fields_of Try.underlying30 hy
  obtain ⟨y0, h0⟩ := hf 0 _ rfl
  obtain ⟨y1, h1⟩ := hf 1 _ rfl
  obtain ⟨y2, h2⟩ := hf 2 _ rfl
  obtain ⟨x0, e0, _⟩ := field_int (off := 0) Try.underlying3 (show DataW.trod enc Try.prog w 0 (fun _ => true) true m 3 ((cs.drop 0).take 1) = some y0 from h0)
  obtain ⟨x1, e1, _⟩ := field_int (off := 1) Try.underlying3 (show DataW.trod enc Try.prog w 0 (fun _ => true) true m 3 ((cs.drop 1).take 1) = some y1 from h1)
  obtain ⟨x2', e2, w2⟩ := field_int (off := 2) Try.underlying28 (show DataW.trod enc Try.prog w 0 (fun _ => true) true m 28 ((cs.drop 2).take 1) = some y2 from h2)
  have hb2 := bounds_u32 w2
  obtain ⟨x2, rfl⟩ : ∃ x2 : Nat, x2' = (x2 : Int) := ⟨x2'.toNat, by omega⟩
  refine ⟨⟨x0, x1, x2⟩, ?_, by dsimp only; omega⟩
  have hln : cs.length = 3 := by rw [hl]; kernel_rfl
  match cs, hln, e0, e1, e2 with
  | [c0, c1, c2], _, e0, e1, e2 =>
    simp at e0 e1 e2
    subst e0 e1 e2
    rfl
end Go.Proofs.Ytmkhjlmhobihmaa
