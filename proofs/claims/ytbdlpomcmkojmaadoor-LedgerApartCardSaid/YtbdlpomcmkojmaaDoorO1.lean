/- The elements as they come in. -/
import Derived.Test.YtbdlpomcmkojmaaDoorB1
import Derived.Test.YtbdlpomcmkojmaaDoorS4
namespace Go.Proofs.YtbdlpomcmkojmaaDoor
open Go.ChangeShapes Go.WideShapes Go.ChangeAt Go.RowKit Go.Deep

def Tryd.bytes33 : Nat := 32
theorem Tryd.bytesEq33 : Tryd.prog.bytesOf 33 = Tryd.bytes33 := by kernel_rfl
theorem Tryd.open23 {H : Type} {enc : TypeId × Value → H} {w : World} {a : Option Addr} {len cap : Nat} {d : DataW H} {p : List MemPlace} (h : DataW.Trod enc Tryd.prog w 0 (fun _ => true) true 23 (.slice a len cap) d p) (hsz : len ≤ 140737488355328) :
    ∃ xs, SlS FP 4 w (.slice a len cap) xs ∧ ∀ t ∈ xs, True := by
  refine sls_of FP (fun _ => True) Tryd.underlying23 (show Tryd.prog.cellsOf 33 = 4 from by kernel_rfl) (by decide) (fun n cs y hy => ?_) h hsz
  obtain ⟨hl, m, hf⟩ := fields_of Tryd.underlying33 hy
  obtain ⟨y0, h0⟩ := hf 0 _ rfl
  obtain ⟨y1, h1⟩ := hf 1 _ rfl
  obtain ⟨y2, h2⟩ := hf 2 _ rfl
  obtain ⟨y3, h3⟩ := hf 3 _ rfl
  obtain ⟨x0, e0, _⟩ := field_int (off := 0) Tryd.underlying3 (show DataW.trod enc Tryd.prog w 0 (fun _ => true) true m 3 ((cs.drop 0).take 1) = some y0 from h0)
  obtain ⟨x1, e1, _⟩ := field_int (off := 1) Tryd.underlying3 (show DataW.trod enc Tryd.prog w 0 (fun _ => true) true m 3 ((cs.drop 1).take 1) = some y1 from h1)
  obtain ⟨x2, e2, _⟩ := field_int (off := 2) Tryd.underlying3 (show DataW.trod enc Tryd.prog w 0 (fun _ => true) true m 3 ((cs.drop 2).take 1) = some y2 from h2)
  obtain ⟨x3, e3, _⟩ := field_int (off := 3) Tryd.underlying2 (show DataW.trod enc Tryd.prog w 0 (fun _ => true) true m 2 ((cs.drop 3).take 1) = some y3 from h3)
  refine ⟨⟨x0, x1, x2, x3⟩, ?_, trivial⟩
  have hln : cs.length = 4 := by rw [hl]; kernel_rfl
  match cs, hln, e0, e1, e2, e3 with
  | [c0, c1, c2, c3], _, e0, e1, e2, e3 =>
    simp at e0 e1 e2 e3
    subst e0 e1 e2 e3
    rfl
end Go.Proofs.YtbdlpomcmkojmaaDoor
