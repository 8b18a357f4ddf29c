/- Masks as they come in. No condition. -/
import Derived.Test.YtpjkpnfelpfhaaaB2
import Derived.Test.YtpjkpnfelpfhaaaW2
import Derived.Test.YtpjkpnfelpfhaaaW1
namespace Go.Proofs.Ytpjkpnfelpfhaaa
open Go.RowKit
set_option linter.unusedVariables false
set_option linter.unusedSimpArgs false
set_option maxRecDepth 100000

theorem sls_u32 {W : World} {v : Value} {xs : List Int} (h : SlS (fun x => [Value.int .u32 x]) 1 W v xs) (hw : ∀ x ∈ xs, (Lit.int .u32 x).wf = true) : SlS FU 1 W v (xs.map Int.toNat) ∧ ∀ y ∈ xs.map Int.toNat, y < 4294967296 := by
  have hb : ∀ x ∈ xs, 0 ≤ x ∧ x < 4294967296 := fun x hx => ⟨(bounds_u32 (hw x hx)).1, by have := (bounds_u32 (hw x hx)).2; omega⟩
  refine ⟨?_, fun y hy => ?_⟩
  · obtain ⟨a, cap, e, hm, hn, hc⟩ := h
    refine ⟨a, cap, by rw [List.length_map]; exact e, by rw [List.length_map]; exact hm, by rw [List.length_map]; exact hn, fun j y hy => ?_⟩
    rw [List.getElem?_map, Option.map_eq_some_iff] at hy
    obtain ⟨x, hx, rfl⟩ := hy
    obtain ⟨b, off, h1, h2, h3⟩ := hc j x hx
    refine ⟨b, off, h1, h2, fun i u hu => h3 i u ?_⟩
    have := (hb x (List.mem_of_getElem? hx)).1
    rw [FU, Int.toNat_of_nonneg this] at hu
    exact hu
  · obtain ⟨x, hx, rfl⟩ := List.mem_map.1 hy
    have := hb x hx
    omega
end Go.Proofs.Ytpjkpnfelpfhaaa
