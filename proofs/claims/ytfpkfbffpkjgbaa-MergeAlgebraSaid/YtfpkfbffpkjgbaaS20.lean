/- Dots in range, and a number that keeps their order. No condition. -/
import Derived.Test.YtfpkfbffpkjgbaaA5
namespace Go.Proofs.Ytfpkfbffpkjgbaa
open Go.RowKit
set_option linter.unusedVariables false
set_option linter.unusedSimpArgs false
set_option maxRecDepth 100000

/-- the number of a dot -/
def kD (d : Dt) : Int := (d.item * 18446744073709551616 + d.who) * 18446744073709551616 + d.n
def in64 (x : Int) : Prop := -9223372036854775808 ≤ x ∧ x ≤ 9223372036854775807
def Rng (d : Dt) : Prop := in64 d.item ∧ in64 d.who ∧ in64 d.n
theorem kD_lt {a b : Dt} (ha : Rng a) (hb : Rng b) : dotC a b < 0 ↔ kD a < kD b := by
  rw [dot_less]
  obtain ⟨⟨a1, a2⟩, ⟨a3, a4⟩, ⟨a5, a6⟩⟩ := ha
  obtain ⟨⟨b1, b2⟩, ⟨b3, b4⟩, ⟨b5, b6⟩⟩ := hb
  unfold kD
  omega
theorem kD_inj {a b : Dt} (ha : Rng a) (hb : Rng b) (h : kD a = kD b) : a = b := by
  obtain ⟨⟨a1, a2⟩, ⟨a3, a4⟩, ⟨a5, a6⟩⟩ := ha
  obtain ⟨⟨b1, b2⟩, ⟨b3, b4⟩, ⟨b5, b6⟩⟩ := hb
  unfold kD at h
  exact Dt.same.1 ⟨by omega, by omega, by omega⟩
theorem isRow_map {α β : Type} (f : β → List Value) (g : α → β) (sz off cap : Nat) (xs : List α) : isRow f sz off cap (xs.map g) = isRow (fun x => f (g x)) sz off cap xs := by
  funext o
  unfold isRow
  refine propext (and_congr Iff.rfl ⟨fun h j x hx => h j (g x) (by rw [List.getElem?_map, hx]; rfl), fun h j y hy => ?_⟩)
  rw [List.getElem?_map, Option.map_eq_some_iff] at hy
  obtain ⟨x, hx, rfl⟩ := hy
  exact h j x hx
theorem own_map {α β : Type} (f : β → List Value) (g : α → β) (sz : Nat) (v : Value) (xs : List α) : Hp.own f sz v (xs.map g) = Hp.own (fun x => f (g x)) sz v xs := by
  funext h
  unfold Hp.own
  simp only [isRow_map, List.length_map, List.map_eq_nil_iff]
/-- a dot in range -/
abbrev Dk := { d : Dt // Rng d }
abbrev FK (d : Dk) : List Value := FD d.1
theorem FK_len (c : Dk) : (FK c).length = 3 := rfl
theorem FK_one (p : Dk) (u : Value) (h : u ∈ FK p) : u.oneCell' = true := FD_one p.1 u h
def kK (d : Dk) : Int := kD d.1
theorem kK_lt {a b : Dk} : dotC a.1 b.1 < 0 ↔ kK a < kK b := kD_lt a.2 b.2
theorem kK_inj {a b : Dk} (h : kK a = kK b) : a = b := Subtype.ext (kD_inj a.2 b.2 h)
/-- as dots in range -/
theorem lift_rng {xs : List Dt} (h : ∀ x ∈ xs, Rng x) : ∃ ys : List Dk, xs = ys.map (·.1) :=
  ⟨xs.attach.map fun x => ⟨x.1, h x.1 x.2⟩, by rw [List.map_map]; exact (List.attach_map_subtype_val xs).symm⟩
end Go.Proofs.Ytfpkfbffpkjgbaa
