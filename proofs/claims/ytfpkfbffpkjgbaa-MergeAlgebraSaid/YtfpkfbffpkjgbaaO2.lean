/- The copies as they come in. -/
import Derived.Test.YtfpkfbffpkjgbaaB6
import Derived.Test.YtfpkfbffpkjgbaaW2
namespace Go.Proofs.Ytfpkfbffpkjgbaa
open Go.ChangeShapes Go.WideShapes Go.ChangeAt Go.RowKit Go.Deep
set_option linter.unusedVariables false
set_option linter.unusedSimpArgs false
set_option maxRecDepth 100000

theorem wf64 {x : Int} (h : (Lit.int .i64 x).wf = true) : in64 x := by
  simp [Lit.wf] at h
  exact h
section
variable {H : Type} {enc : TypeId × Value → H} {w : World}
theorem open_longs {a : Option Addr} {len cap : Nat} {d : DataW H} {p : List MemPlace} (h : DataW.Trod enc Try.prog w 0 (fun _ => true) true 22 (.slice a len cap) d p) (hw : Light Try.prog 22 d) : ∃ xs, SlS FI 1 w (.slice a len cap) xs ∧ ∀ x ∈ xs, True :=
  sls_ofD FI (fun _ => True) Try.underlying22 (show Try.prog.cellsOf 2 = 1 from by kernel_rfl) (by decide) (show Try.prog.bytesOf 2 = 8 from by kernel_rfl) (by decide) (fun n cs y hy _ => by
    obtain ⟨x, h1, _, h3⟩ := DataW.trod_int Try.underlying2 hy
    exact ⟨x, h1, trivial⟩) hw h
theorem open_dots {a : Option Addr} {len cap : Nat} {d : DataW H} {p : List MemPlace} (h : DataW.Trod enc Try.prog w 0 (fun _ => true) true 25 (.slice a len cap) d p) (hw : Light Try.prog 25 d) : ∃ xs, SlS FD 3 w (.slice a len cap) xs ∧ ∀ x ∈ xs, Rng x := by
  refine sls_ofD FD Rng Try.underlying25 (show Try.prog.cellsOf 59 = 3 from by kernel_rfl) (by decide) (show Try.prog.bytesOf 59 = 24 from by kernel_rfl) (by decide) (fun n cs y hy hl => ?_) hw h
  obtain ⟨hlc, m, hf⟩ := fieldsD Try.underlying59 hy hl
  obtain ⟨y0, h0, _⟩ := hf 0 _ rfl
  obtain ⟨y1, h1, _⟩ := hf 1 _ rfl
  obtain ⟨y2, h2, _⟩ := hf 2 _ rfl
  obtain ⟨x0, e0, g0⟩ := field_int (off := 0) Try.underlying3 (show DataW.trod enc Try.prog w 0 (fun _ => true) true m 3 ((cs.drop 0).take 1) = some y0 from h0)
  obtain ⟨x1, e1, g1⟩ := field_int (off := 1) Try.underlying3 (show DataW.trod enc Try.prog w 0 (fun _ => true) true m 3 ((cs.drop 1).take 1) = some y1 from h1)
  obtain ⟨x2, e2, g2⟩ := field_int (off := 2) Try.underlying3 (show DataW.trod enc Try.prog w 0 (fun _ => true) true m 3 ((cs.drop 2).take 1) = some y2 from h2)
  refine ⟨⟨x0, x1, x2⟩, ?_, wf64 g0, wf64 g1, wf64 g2⟩
  have hln : cs.length = 3 := by rw [hlc]; kernel_rfl
  match cs, hln, e0, e1, e2 with
  | [c0, c1, c2], _, e0, e1, e2 =>
    simp at e0 e1 e2
    subst e0 e1 e2
    rfl
theorem Try.openS27 {b0 : Nat} {v : Value} {d : DataW H} {p : List MemPlace} (hv : Value.okWide Try.prog w .any b0 27 v) (hw : Light Try.prog 27 d) (h : DataW.Trod enc Try.prog w 0 (fun _ => true) true 27 v d p) :
    ∃ m : Cm, v = .agg #[.slice m.p.a m.p.n m.p.c, .int .i64 m.c.la.n, .int .i64 m.c.la.who, .int .i64 m.c.la.val, .slice m.q.a m.q.n m.q.c, .slice m.r.a m.r.n m.r.c] ∧
      InM w (.slice m.p.a m.p.n m.p.c) (.slice m.q.a m.q.n m.q.c) (.slice m.r.a m.r.n m.r.c) m.c ∧ (∀ d ∈ m.c.ad, Rng d) ∧ ∀ d ∈ m.c.go, Rng d := by
  obtain ⟨cs, rfl, hsz⟩ := okWide_struct Try.underlying27 hv
  obtain ⟨cs⟩ := cs
  obtain ⟨fuel, hf⟩ := h
  obtain ⟨hlc, m, hg⟩ := fieldsD Try.underlying27 (show DataW.trod enc Try.prog w 0 (fun _ => true) true fuel 27 cs = some (d, p) from hf) hw
  obtain ⟨y0, h0, l0⟩ := hg 0 _ rfl
  obtain ⟨y1, h1, l1⟩ := hg 1 _ rfl
  obtain ⟨y2, h2, l2⟩ := hg 2 _ rfl
  obtain ⟨y3, h3, l3⟩ := hg 3 _ rfl
  obtain ⟨a1, n1, c1, e1, k1⟩ := field_slice (off := 0) Try.underlying22 (show DataW.trod enc Try.prog w 0 (fun _ => true) true m 22 ((cs.drop 0).take 1) = some y0 from h0)
  obtain ⟨a2, n2, c2, e2, k2⟩ := field_slice (off := 4) Try.underlying25 (show DataW.trod enc Try.prog w 0 (fun _ => true) true m 25 ((cs.drop 4).take 1) = some y2 from h2)
  obtain ⟨a3, n3, c3, e3, k3⟩ := field_slice (off := 5) Try.underlying25 (show DataW.trod enc Try.prog w 0 (fun _ => true) true m 25 ((cs.drop 5).take 1) = some y3 from h3)
  obtain ⟨x1, s1, _⟩ := open_longs k1 l0
  obtain ⟨x2, s2, g2⟩ := open_dots k2 l2
  obtain ⟨x3, s3, g3⟩ := open_dots k3 l3
  obtain ⟨hls, m2, hs⟩ := fieldsD Try.underlying24 (show DataW.trod enc Try.prog w 0 (fun _ => true) true m 24 ((cs.drop 1).take 3) = some y1 from h1) l1
  obtain ⟨z0, q0, _⟩ := hs 0 _ rfl
  obtain ⟨z1, q1, _⟩ := hs 1 _ rfl
  obtain ⟨z2, q2, _⟩ := hs 2 _ rfl
  obtain ⟨u0, f0, _⟩ := field_int (off := 0) Try.underlying3 (show DataW.trod enc Try.prog w 0 (fun _ => true) true m2 3 ((((cs.drop 1).take 3).drop 0).take 1) = some z0 from q0)
  obtain ⟨u1, f1, _⟩ := field_int (off := 1) Try.underlying3 (show DataW.trod enc Try.prog w 0 (fun _ => true) true m2 3 ((((cs.drop 1).take 3).drop 1).take 1) = some z1 from q1)
  obtain ⟨u2, f2, _⟩ := field_int (off := 2) Try.underlying2 (show DataW.trod enc Try.prog w 0 (fun _ => true) true m2 2 ((((cs.drop 1).take 3).drop 2).take 1) = some z2 from q2)
  refine ⟨⟨⟨a1, n1, c1⟩, ⟨a2, n2, c2⟩, ⟨a3, n3, c3⟩, ⟨x1, ⟨u0, u1, u2⟩, x2, x3⟩⟩, ?_, ⟨s1, s2, s3⟩, g2, g3⟩
  have hln : cs.length = 6 := by rw [hlc]; kernel_rfl
  match cs, hln, e1, e2, e3, f0, f1, f2 with
  | [c0, c1', c2', c3', c4, c5], _, e1, e2, e3, f0, f1, f2 =>
    simp at e1 e2 e3 f0 f1 f2
    subst e1 e2 e3 f0 f1 f2
    rfl
end
end Go.Proofs.Ytfpkfbffpkjgbaa
