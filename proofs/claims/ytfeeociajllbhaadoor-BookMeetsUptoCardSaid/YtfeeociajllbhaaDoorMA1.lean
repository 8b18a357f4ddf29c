/- Who lies. The walk. No condition. -/
import Derived.Test.YtfeeociajllbhaaDoorMD1
import Derived.Test.YtfeeociajllbhaaDoorW2
namespace Go.Proofs.YtfeeociajllbhaaDoor.Mt
open Go.RowKit
set_option linter.unusedVariables false
set_option linter.unusedSimpArgs false
set_option maxRecDepth 100000

theorem bit_one (L i : Nat) : (L >>> i &&& 1 = 1) ↔ L.testBit i = true := by
  unfold Nat.testBit
  have : 1 &&& L >>> i = L >>> i &&& 1 := Nat.and_comm ..
  rw [this]
  have h2 : L >>> i &&& 1 = 0 ∨ L >>> i &&& 1 = 1 := by
    have : L >>> i &&& 1 = (L >>> i) % 2 := Nat.and_one_is_mod _
    omega
  rcases h2 with h | h <;> rw [h] <;> decide
theorem sh_lt {x : Nat} (i : Nat) (h : x < 4294967296) : x >>> i < 4294967296 := Nat.lt_of_le_of_lt (Nat.shiftRight_le ..) h
theorem lies_any {W : World} {S i : Nat} {c : MC} (hb : S < W.heap.size) (hc : W.cell? ⟨S, 2, none⟩ = some (.int .u32 ((c.L : Nat) : Int))) (hL : c.L < 4294967296) (hi : i < 32) : Calls Tryd.prog 31 #[ptr S 0, .int .i64 ((i : Nat) : Int)] W fun e w' => e = .returned (.bool (liesB c.L i)) ∧ Below W.heap.size W w' := by
  refine calls_pure (Gx.enter (l := []) Tryd.func31 rfl Tryd.ntmps31 rfl (Sat.start W) ?_)
  refine Gx.know (m' := [(0, ptr S 0), (1, .int .i64 ((i : Nat) : Int))]) (.cons rfl (.cons rfl .nil)) ?_
  refine Gx.seq ?_
  refine Gx.region ?_
  refine Gx.val rfl rfl rfl (val_assign rfl rfl) ?_
  refine Gx.done ?_
  refine Gx.thenN ?_
  refine Gx.seq ?_
  refine Gx.region ?_
  refine Gx.val rfl rfl rfl (val_move rfl rfl) ?_
  refine Gx.val rfl rfl rfl (val_nilCheck rfl rfl) ?_
  refine Gx.val rfl rfl rfl (Val.cast (val_fieldAddr rfl Tryd.underlying53 rfl Tryd.ty22 rfl rfl) (v' := ptr S 2) rfl) ?_
  refine Gx.val rfl rfl rfl (val_load rfl Tryd.ty22 rfl rfl (cell_old hb hc)) ?_
  refine Gx.val rfl rfl rfl (val_move rfl rfl) ?_
  refine Gx.val rfl rfl rfl (val_shr (b := i) rfl rfl rfl rfl (by show i ≤ 32; omega) (shr32 _ _)) ?_
  refine Gx.val rfl rfl rfl (val_and rfl rfl rfl (and32 (sh_lt i hL) (by decide : 1 < 4294967296))) ?_
  refine Gx.val rfl rfl rfl (val_eql rfl rfl rfl) ?_
  refine Gx.val rfl rfl rfl (val_assign rfl rfl) ?_
  refine Gx.done ?_
  refine Gx.thenN ?_
  refine Gx.ret ?_
  refine Gx.ret1 Tryd.results31 rfl ?_
  exact congrArg Value.bool (by unfold liesB; cases e : c.L.testBit i with | true => exact decide_eq_true (congrArg Nat.cast ((bit_one c.L i).2 e)) | false => exact decide_eq_false fun h => by rw [(bit_one c.L i).1 (Int.ofNat.inj h)] at e; cases e)

end Go.Proofs.YtfeeociajllbhaaDoor.Mt
