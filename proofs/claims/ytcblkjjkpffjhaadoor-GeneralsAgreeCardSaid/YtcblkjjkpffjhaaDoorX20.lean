/- Two places of one slice, compared. Over any program. No condition. -/
import Derived.Test.YtcblkjjkpffjhaaDoorX19
import Derived.Laws.Pointers
namespace Go.Proofs.YtcblkjjkpffjhaaDoor
open Go.RowKit
set_option linter.unusedVariables false
set_option linter.unusedSimpArgs false
section
variable {P : Program} {c : Cx} {m : List (Nat × Value)} {l : List Hp} {o : Oper} {x y : Operand} {T T' : TypeId}
theorem run_equalInPP {P : Program} (d : Nat) (w : World) (t E : TypeId) (b i j n : Nat) (h : P.underlying t = some (.pointer E)) (hz : ∀ w, (sizeOf E).run P w = .ok (n + 1) w) :
    (Op.equalIn (d + 1) t (.pointer (some ⟨b, i, none⟩)) (.pointer (some ⟨b, j, none⟩))).run P w = .ok (decide (i = j)) w := by
  have hs : (sameAddr ⟨b, i, none⟩ ⟨b, j, none⟩).run P w = .ok (decide (i = j)) w := by
    unfold sameAddr
    rw [if_pos (by simp)]
    show Result.ok ((⟨b, i, none⟩ : Addr) == ⟨b, j, none⟩) w = _
    congr 1
    by_cases e : i = j
    · subst e; simp
    · rw [decide_eq_false e]
      exact beq_eq_false_iff_ne.2 (fun h => e (by cases h; rfl))
  simp [Op.equalIn, run_underlying h, hz, hs]
theorem run_equalPP {P : Program} (w : World) (t E : TypeId) (b i j n : Nat) (h : P.underlying t = some (.pointer E)) (hz : ∀ w, (sizeOf E).run P w = .ok (n + 1) w) :
    (Op.equal t (.pointer (some ⟨b, i, none⟩)) (.pointer (some ⟨b, j, none⟩))).run P w = .ok (decide (i = j)) w := run_equalInPP 9999 w t E b i j n h hz
theorem val_neqPP {b i j n : Nat} (ho : o.op = .binOp .neq T x y T') {E : TypeId} (hT : P.underlying T = some (.pointer E)) (hz : ∀ w, (sizeOf E).run P w = .ok (n + 1) w) (hx : evo m x = some (.pointer (some ⟨b, i, none⟩))) (hy : evo m y = some (.pointer (some ⟨b, j, none⟩))) {q : Prop} [Decidable q] (hq : i ≠ j ↔ q) : Val P c m l o (.bool (decide q)) := Val.of fun a w s H => by
  have e : (!decide (i = j)) = decide q := by
    by_cases h : i = j
    · rw [decide_eq_true h, decide_eq_false (fun h2 => hq.2 h2 h)]; rfl
    · rw [decide_eq_false h, decide_eq_true (hq.1 h)]; rfl
  simp [execOp, ho, s.ev hx, s.ev hy, eqGuard, binOp, run_equalPP w T E b i j n hT hz, Result.andThen, e]
theorem val_makeInterface {v : Value} (ho : o.op = .makeInterface T x) (hx : evo m x = some v) (hr : ∀ w, (Instr.makeInterface T v).run P w = .ok (.iface T v) w) : Val P c m l o (.iface T v) := Val.of fun a w s H => by
  simp [execOp, ho, s.ev hx, hr, Result.andThen]
end
end Go.Proofs.YtcblkjjkpffjhaaDoor
