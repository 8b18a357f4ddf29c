/- The needs as they come in. -/
import Derived.Test.YtplcflifofomjaaD1
import Derived.Test.YtplcflifofomjaaX18
namespace Go.Proofs.Ytplcflifofomjaa
open Go.ChangeShapes Go.WideShapes Go.ChangeAt Go.RowKit Go.Deep

def Try.bytes38 : Nat := 40
theorem Try.bytesEq38 : Try.prog.bytesOf 38 = Try.bytes38 := by kernel_rfl
theorem Try.open22 {H : Type} {enc : TypeId × Value → H} {w : World} {a : Option Addr} {len cap : Nat} {d : DataW H} {p : List MemPlace} (h : DataW.Trod enc Try.prog w 0 (fun _ => true) true 22 (.slice a len cap) d p) (hw : Light Try.prog 22 d) :
    ∃ xs, SlS FD 3 w (.slice a len cap) xs ∧ ∀ x ∈ xs, SlS FZ 1 w (.slice x.a x.n x.c) x.fr := by
  refine sls_ofD FD (fun x => SlS FZ 1 w (.slice x.a x.n x.c) x.fr) Try.underlying22 (show Try.prog.cellsOf 38 = 3 from by kernel_rfl) (by decide) Try.bytesEq38 (by decide) (fun n cs y hy hl => ?_) hw h
  obtain ⟨hlc, m, hf⟩ := fieldsD Try.underlying38 hy hl
  obtain ⟨y0, h0, _⟩ := hf 0 _ rfl
  obtain ⟨y1, h1, _⟩ := hf 1 _ rfl
  obtain ⟨y2, h2, l2⟩ := hf 2 _ rfl
  obtain ⟨x0, e0, _⟩ := field_int (off := 0) Try.underlying3 (show DataW.trod enc Try.prog w 0 (fun _ => true) true m 3 ((cs.drop 0).take 1) = some y0 from h0)
  obtain ⟨x1, e1⟩ := field_bool (off := 1) Try.underlying4 (show DataW.trod enc Try.prog w 0 (fun _ => true) true m 4 ((cs.drop 1).take 1) = some y1 from h1)
  obtain ⟨a2, n2, c2, e2, k2⟩ := field_slice (off := 2) Try.underlying24 (show DataW.trod enc Try.prog w 0 (fun _ => true) true m 24 ((cs.drop 2).take 1) = some y2 from h2)
  obtain ⟨fr, hfr, _⟩ := sls_ofD FZ (fun _ => True) Try.underlying24 (show Try.prog.cellsOf 3 = 1 from by kernel_rfl) (by decide) (show Try.prog.bytesOf 3 = 8 from by kernel_rfl) (by decide) (fun n cs y hy _ => by
    obtain ⟨x, h1, _, h3⟩ := DataW.trod_int Try.underlying3 hy
    exact ⟨x, h1, trivial⟩) l2 k2
  refine ⟨⟨x0, x1, a2, n2, c2, fr⟩, ?_, hfr⟩
  have hln : cs.length = 3 := by rw [hlc]; kernel_rfl
  match cs, hln, e0, e1, e2 with
  | [c0, c1, c2'], _, e0, e1, e2 =>
    simp at e0 e1 e2
    subst e0 e1 e2
    rfl
end Go.Proofs.Ytplcflifofomjaa
