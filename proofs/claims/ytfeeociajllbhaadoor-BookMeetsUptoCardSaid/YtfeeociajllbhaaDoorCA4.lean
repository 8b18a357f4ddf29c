/- The laws' own word of it; the last one of both. -/
import Derived.Test.YtfeeociajllbhaaDoorCA3
namespace Go.Proofs.YtfeeociajllbhaaDoor
open Go.RowKit
set_option linter.unusedVariables false
namespace Chn
/-- a block's parent -/
def pr (l : List (Int × Int)) (b : Nat) : Nat := match l[b]? with | some x => x.1.toNat | none => 0
theorem OkC.par {l : List (Int × Int)} (h : OkC l) {b : Nat} (hb : 0 < b) {x : Int × Int} (hx : l[b]? = some x) : x.1 = (pr l b : Int) ∧ pr l b < b ∧ ∃ y, l[pr l b]? = some y ∧ y.2 < x.2 := by
  obtain ⟨p, y, h1, h2, h3, h4⟩ := h.rest b x hb hx
  have e : pr l b = p := by unfold pr; rw [hx]; simp [h1]
  rw [e]; exact ⟨h1, h2, y, h3, h4⟩
/-- c is b, or its parent, and so on -/
inductive Anc (l : List (Int × Int)) : Nat → Nat → Prop
  | self (b : Nat) : Anc l b b
  | step {c b : Nat} : 0 < b → Anc l c (pr l b) → Anc l c b
theorem OkC.prlt {l : List (Int × Int)} (h : OkC l) {b : Nat} (hb : 0 < b) (hl : b < l.length) : pr l b < b := by
  obtain ⟨x, hx⟩ := get_of_lt hl
  exact (h.par hb hx).2.1
theorem OkC.anc_le {l : List (Int × Int)} (h : OkC l) {c b : Nat} (ha : Anc l c b) : b < l.length → c ≤ b := by
  induction ha with
  | self => intro _; exact Nat.le_refl _
  | step hb _ ih => intro hl; have := h.prlt hb hl; have := ih (by omega); omega
theorem OkC.anc_up {l : List (Int × Int)} (h : OkC l) {c b : Nat} (ha : Anc l c b) (hl : b < l.length) (hne : c < b) : Anc l c (pr l b) := by
  cases ha with
  | self => omega
  | step hb h2 => exact h2
theorem Anc.trans {l : List (Int × Int)} {c b a : Nat} (h : Anc l c b) (h2 : Anc l b a) : Anc l c a := by
  induction h2 with
  | self => exact h
  | step hb _ ih => exact .step hb ih
theorem OkC.anc_zero {l : List (Int × Int)} (h : OkC l) : ∀ (n b : Nat), b ≤ n → b < l.length → Anc l 0 b
  | _, 0, _, _ => .self (l := l) 0
  | 0, b + 1, hn, _ => by omega
  | n + 1, b + 1, hn, hl => .step (by omega) (h.anc_zero n _ (by have := h.prlt (b := b + 1) (Nat.succ_pos b) hl; omega) (by have := h.prlt (b := b + 1) (Nat.succ_pos b) hl; omega))
/-- two of one line: the smaller one is below the other -/
theorem OkC.line {l : List (Int × Int)} (h : OkC l) {c d b : Nat} (h1 : Anc l c b) (h2 : Anc l d b) (hl : b < l.length) (hcd : c ≤ d) : Anc l c d := by
  induction h2 with
  | self => exact h1
  | step hb h3 ih =>
    have := h.prlt hb hl
    cases h1 with
    | self => have := h.anc_le h3 (by omega); omega
    | step _ h4 => exact ih h4 (by omega)

end Chn
end Go.Proofs.YtfeeociajllbhaaDoor
