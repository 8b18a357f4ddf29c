/- The assembly in memory, and what holds of it. No condition. -/
import Derived.Test.YtfeeociajllbhaaDoorMD2
import Derived.Test.YtfeeociajllbhaaDoorW2
namespace Go.Proofs.YtfeeociajllbhaaDoor.Mt
open Go.RowKit
set_option linter.unusedVariables false
set_option linter.unusedSimpArgs false
set_option maxRecDepth 100000

abbrev mapL (b : Nat) (ms : Lt) : Hp := Hp.map Tryd.prog 92 tripL vI b ms
abbrev mapG (b : Nat) (ms : Gv) : Hp := Hp.map Tryd.prog 93 pairL vI b ms
abbrev recS (S : Nat) (c : MC) (bv vv mv : Value) (lb gb : Nat) : Hp := Hp.rec_ S [.int .i64 ((c.n : Nat) : Int), .int .i64 ((c.need : Nat) : Int), .int .u32 ((c.L : Nat) : Int), bv, vv, mv, .map (some lb), .map (some gb)]
def worldH (S : Nat) (c : MC) (s : MS) : Hp := Hp.ex fun q : Value × Value × Value × Nat × Nat =>
  recS S c q.1 q.2.1 q.2.2.1 q.2.2.2.1 q.2.2.2.2 * (Hp.own FK 2 q.1 s.bl * (Hp.own FV 1 q.2.1 s.vt * (Hp.own FR 2 q.2.2.1 s.ms * (mapL q.2.2.2.1 s.lt * mapG q.2.2.2.2 s.gv))))
theorem sep6R (p q r s t u R : Hp) : sep [p, q, r, s, t, u, R] = p * (q * (r * (s * (t * (u * R))))) := by show p * (q * (r * (s * (t * (u * (R * 1)))))) = _; rw [Hp.mul_one]
theorem worldH.open_ {W w : World} {S : Nat} {c : MC} {s : MS} {R : Hp} (H : Sat W w (worldH S c s * R)) : ∃ (bv vv mv : Value) (lb gb : Nat), Sat W w (sep [recS S c bv vv mv lb gb, Hp.own FK 2 bv s.bl, Hp.own FV 1 vv s.vt, Hp.own FR 2 mv s.ms, mapL lb s.lt, mapG gb s.gv, R]) := by
  obtain ⟨⟨bv, vv, mv, lb, gb⟩, H⟩ := H.ex
  exact ⟨bv, vv, mv, lb, gb, H.cast (by rw [sep6R]; simp only [Hp.mul_assoc])⟩
theorem worldH.shut {W w : World} {S : Nat} {c : MC} {s : MS} {bv vv mv : Value} {lb gb : Nat} {R : Hp} (H : Sat W w (recS S c bv vv mv lb gb * (Hp.own FK 2 bv s.bl * (Hp.own FV 1 vv s.vt * (Hp.own FR 2 mv s.ms * (mapL lb s.lt * (mapG gb s.gv * R))))))) : Sat W w (worldH S c s * R) := by
  refine Sat.exI (p := fun q : Value × Value × Value × Nat × Nat =>
    recS S c q.1 q.2.1 q.2.2.1 q.2.2.2.1 q.2.2.2.2 * (Hp.own FK 2 q.1 s.bl * (Hp.own FV 1 q.2.1 s.vt * (Hp.own FR 2 q.2.2.1 s.ms * (mapL q.2.2.2.1 s.lt * mapG q.2.2.2.2 s.gv))))) (bv, vv, mv, lb, gb) (H.cast ?_)
  simp only [Hp.mul_assoc]
/-- what holds of the assembly at every step -/
structure BdM (T : Nat) (c : MC) (s : MS) : Prop where
  vlen : s.vt.length = s.bl.length
  b40 : s.bl.length ≤ 40
  first : s.bl[0]? = some ⟨-1, 0⟩
  par : ∀ (b : Nat) (x : Bk), 0 < b → s.bl[b]? = some x → ∃ (p : Nat) (y : Bk), x.par = (p : Int) ∧ p < b ∧ s.bl[p]? = some y ∧ y.rnd < x.rnd
  rnd : ∀ (b : Nat) (x : Bk), s.bl[b]? = some x → x.rnd ≤ 1000
  vt : ∀ v ∈ s.vt, v < 2 ^ c.n
  mlen : s.ms.length = c.n
  mb : ∀ m ∈ s.ms, m.vo ≤ 1000 ∧ m.kn ≤ 1000
  lt : ∀ e ∈ s.lt, e.1.2.1.val < c.n
  ltl : s.lt.length ≤ T
  gvl : s.gv.length ≤ T
  gva : ∀ k : Sm × Sm, 0 ≤ (getM s.gv k).getD 0 ∧ (getM s.gv k).getD 0 ≤ T
structure OkM (c : MC) : Prop where
  n7 : c.n ≤ 7
  need : c.need ≤ 7
  L : c.L < 4294967296
theorem BdM.pos {T : Nat} {c : MC} {s : MS} (h : BdM T c s) : 0 < s.bl.length := (List.getElem?_eq_some_iff.1 h.first).1
theorem BdM.v128 {T : Nat} {c : MC} {s : MS} (h : BdM T c s) (o : OkM c) : ∀ v ∈ s.vt, v < 128 := fun v hv => Nat.lt_of_lt_of_le (h.vt v hv) (Nat.pow_le_pow_right (n := 2) (by decide) o.n7)
theorem bool_of {p : Prop} [Decidable p] {x : Bool} (h : p ↔ x = true) : decide p = x := by
  cases x with
  | true => exact decide_eq_true (h.2 rfl)
  | false => exact decide_eq_false fun q => Bool.noConfusion (h.1 q)
theorem isN_iff {n : Nat} {x : Int} : isN n x = true ↔ 0 ≤ x ∧ x < n := by unfold isN; exact decide_eq_true_iff
end Go.Proofs.YtfeeociajllbhaaDoor.Mt
