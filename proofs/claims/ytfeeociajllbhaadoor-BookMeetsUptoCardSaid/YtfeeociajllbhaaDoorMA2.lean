/- How many bits are set, below 128. The walk. No condition. -/
import Derived.Test.YtfeeociajllbhaaDoorMA1
import Derived.Test.YtfeeociajllbhaaDoorW2
namespace Go.Proofs.YtfeeociajllbhaaDoor.Mt
open Go.RowKit
set_option linter.unusedVariables false
set_option linter.unusedSimpArgs false
set_option maxRecDepth 100000

theorem val_popS {P : Program} {c : Cx} {m : List (Nat × Value)} {l : List Hp} {o : Oper} {x y : Operand} {T : TypeId} {i n : Nat} {q : IntKind} {s0 : ByteArray} (ho : o.op = .index T x y) (hT : P.underlying T = some .string) (hx : evo m x = some (.string s0)) (hy : evo m y = some (.int q (i : Int))) (hv : (s0[i]?).map UInt8.toNat = some n) : Val P c m l o (.int .u8 (n : Int)) := by
  cases h : s0[i]? with
  | none => rw [h] at hv; cases hv
  | some b => rw [h] at hv; cases hv; exact val_indexS ho hT hx hy h
theorem lt128 {P : Nat → Prop} [DecidablePred P] (h : decide (∀ i : Fin 128, P i.val) = true) {x : Nat} (hx : x < 128) : P x := of_decide_eq_true h ⟨x, hx⟩
theorem lt33 {P : Nat → Prop} [DecidablePred P] (h : ∀ i : Fin 33, P i.val) {x : Nat} (hx : x ≤ 32) : P x := h ⟨x, by omega⟩
theorem sh0 {x : Nat} (k : Nat) (h : x < 128) (hk : 7 ≤ k) : ((x : Nat) : Int).fdiv (2 ^ k) = ((0 : Nat) : Int) := by
  rw [shr32, Nat.shiftRight_eq_div_pow, Nat.div_eq_of_lt (Nat.lt_of_lt_of_le h (Nat.pow_le_pow_right (n := 2) (by decide) hk))]
theorem an255 {x : Nat} (h : x < 128) : x &&& 255 = x := by
  rw [show (255 : Nat) = 2 ^ 8 - 1 from rfl, Nat.and_two_pow_sub_one_eq_mod, Nat.mod_eq_of_lt (by omega)]
theorem add8 {n : Nat} (h : n ≤ 32) : IntKind.u8.wrap (((0 : Nat) : Int) + (n : Int)) = (n : Int) := of_decide_eq_true (lt33 (P := fun n => decide (IntKind.u8.wrap (((0 : Nat) : Int) + (n : Int)) = (n : Int)) = true) (by decide) h)
theorem pop_lt {x : Nat} : pop x ≤ 32 := by unfold pop; exact Nat.le_trans (List.length_filter_le ..) (by simp)
theorem pop_any {W : World} {x : Nat} (hx : x < 128) : Calls Tryd.prog 20 #[.int .u32 ((x : Nat) : Int)] W fun e w' => e = .returned (.int .i64 ((pop x : Nat) : Int)) ∧ Below W.heap.size W w' := by
  have hp32 := pop_lt (x := x)
  refine calls_pure (Gx.enter (l := []) Tryd.func20 rfl Tryd.ntmps20 rfl (Sat.start W) ?_)
  refine Gx.know (m' := [(0, .int .u32 ((x : Nat) : Int))]) (.cons rfl .nil) ?_
  refine Gx.seq ?_
  refine Gx.region ?_
  refine Gx.val rfl rfl rfl (val_assign rfl rfl) ?_
  refine Gx.done ?_
  refine Gx.thenN ?_
  refine Gx.seq ?_
  refine Gx.regionQ Tryd.mixed (by kernel_rfl) ?_
  refine Gq.val rfl rfl rfl (val_move rfl rfl) ?_
  refine Gq.val rfl rfl rfl (val_shr (b := 24) rfl rfl rfl rfl (by decide) (sh0 24 hx (by decide))) ?_
  refine Gq.val rfl rfl rfl (val_popS (i := 0) (n := 0) rfl Tryd.underlying9 rfl rfl (by kernel_rfl)) ?_
  refine Gq.val rfl rfl rfl (val_move rfl rfl) ?_
  refine Gq.val rfl rfl rfl (val_shr (b := 16) rfl rfl rfl rfl (by decide) (sh0 16 hx (by decide))) ?_
  refine Gq.val rfl rfl rfl (val_and rfl rfl rfl (by rfl)) ?_
  refine Gq.val rfl rfl rfl (val_popS (i := 0) (n := 0) rfl Tryd.underlying9 rfl rfl (by kernel_rfl)) ?_
  refine Gq.val rfl rfl rfl (val_add (r := ((0 : Nat) : Int)) rfl rfl rfl (by rfl)) ?_
  refine Gq.val rfl rfl rfl (val_move rfl rfl) ?_
  refine Gq.val rfl rfl rfl (val_shr (b := 8) rfl rfl rfl rfl (by decide) (sh0 8 hx (by decide))) ?_
  refine Gq.val rfl rfl rfl (val_and rfl rfl rfl (by rfl)) ?_
  refine Gq.val rfl rfl rfl (val_popS (i := 0) (n := 0) rfl Tryd.underlying9 rfl rfl (by kernel_rfl)) ?_
  refine Gq.val rfl rfl rfl (val_add (r := ((0 : Nat) : Int)) rfl rfl rfl (by rfl)) ?_
  refine Gq.val rfl rfl rfl (val_move rfl rfl) ?_
  refine Gq.val rfl rfl rfl (val_and rfl rfl rfl ((and32 (by omega : x < 4294967296) (by decide : 255 < 4294967296)).trans (by rw [an255 hx]))) ?_
  refine Gq.val rfl rfl rfl (val_popS (i := x) (n := pop x) rfl Tryd.underlying9 rfl rfl (lt128 (P := fun x => ((_ : ByteArray)[x]?).map UInt8.toNat = some (pop x)) (by kernel_rfl) hx)) ?_
  refine Gq.val rfl rfl rfl (val_add (r := ((pop x : Nat) : Int)) rfl rfl rfl (add8 pop_lt)) ?_
  refine Gq.val rfl rfl rfl (val_conv rfl Tryd.underlying5 Tryd.underlying3 rfl (r := ((pop x : Nat) : Int)) (w64 rfl (by omega))) ?_
  refine Gq.val rfl rfl rfl (val_assign rfl rfl) ?_
  refine Gq.done ?_
  refine Gx.thenN ?_
  refine Gx.ret ?_
  refine Gx.ret1 Tryd.results20 rfl ?_
  rfl

end Go.Proofs.YtfeeociajllbhaaDoor.Mt
