/- Pointers that are nil or not. Over any program. No condition. -/
import Derived.Test.YtcblkjjkpffjhaaDoorX13
import Derived.Laws.Pointers
namespace Go.Proofs.YtcblkjjkpffjhaaDoor
open Go.RowKit
set_option linter.unusedVariables false
set_option linter.unusedSimpArgs false
section
variable {P : Program} {c : Cx} {m : List (Nat × Value)} {l : List Hp} {o : Oper} {x y : Operand} {T T' : TypeId}
theorem val_eqlP {p : Option Addr} (ho : o.op = .binOp .eql T x y T') {E : TypeId} (hT0 : P.underlying T = some (.pointer E)) (hE : P.pointee T = E) (hx : evo m x = some (.pointer p)) (hy : evo m y = some (.pointer none)) : Val P c m l o (.bool p.isNone) := Val.of fun a w s H => by
  have hT : P.underlying T = some (.pointer (P.pointee T)) := by rw [hT0, hE]
  simp [execOp, ho, s.ev hx, s.ev hy, eqGuard, binOp, run_equal_pointer_nil w T p hT, Result.andThen]
theorem val_neqP {p : Option Addr} (ho : o.op = .binOp .neq T x y T') {E : TypeId} (hT0 : P.underlying T = some (.pointer E)) (hE : P.pointee T = E) (hx : evo m x = some (.pointer p)) (hy : evo m y = some (.pointer none)) : Val P c m l o (.bool (!p.isNone)) := Val.of fun a w s H => by
  have hT : P.underlying T = some (.pointer (P.pointee T)) := by rw [hT0, hE]
  simp [execOp, ho, s.ev hx, s.ev hy, eqGuard, binOp, run_equal_pointer_nil w T p hT, Result.andThen]
end
end Go.Proofs.YtcblkjjkpffjhaaDoor
