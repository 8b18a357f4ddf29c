/- Slices of single cells, read as elements. Over any program. No condition. -/
import Derived.Test.YtcblkjjkpffjhaaDoorX10
import Derived.Test.YtcblkjjkpffjhaaDoorL1
namespace Go.Proofs.YtcblkjjkpffjhaaDoor
open Go.RowKit
theorem sls_one {α : Type} {f : α → Value} {w : World} {a : Option Addr} {len cap : Nat} {xs : List α} (h : Sl f w (.slice a len cap) xs) (hc : len ≤ cap) : SlS (fun x => [f x]) 1 w (.slice a len cap) xs := by
  obtain ⟨a', cap', e, hm, hn, hcell⟩ := h
  cases e
  refine ⟨a, cap, rfl, hm, ⟨hn, hc⟩, fun j x hx => ?_⟩
  obtain ⟨b, off, e, hb, hc2⟩ := hcell j x hx
  refine ⟨b, off, e, hb, fun i u hu => ?_⟩
  cases i with
  | zero => simp at hu; subst hu; rw [Nat.mul_one, Nat.add_zero]; exact hc2
  | succ i => simp at hu
end Go.Proofs.YtcblkjjkpffjhaaDoor
