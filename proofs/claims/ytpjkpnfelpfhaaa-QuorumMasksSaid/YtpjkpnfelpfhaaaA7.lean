/- How many bits are set, below 4096. The walks. No condition. -/
import Derived.Test.YtpjkpnfelpfhaaaA3
import Derived.Test.YtpjkpnfelpfhaaaW2
namespace Go.Proofs.Ytpjkpnfelpfhaaa
open Go.RowKit
set_option linter.unusedVariables false
set_option linter.unusedSimpArgs false
set_option maxRecDepth 100000

theorem sh0 {x : Nat} (k : Nat) (h : x < 4096) (hk : 12 ≤ k) : ((x : Nat) : Int).fdiv (2 ^ k) = ((0 : Nat) : Int) := by
  rw [shr32, Nat.shiftRight_eq_div_pow, Nat.div_eq_of_lt (Nat.lt_of_lt_of_le h (Nat.pow_le_pow_right (n := 2) (by decide) hk))]
theorem lt65 {P : Nat → Prop} [DecidablePred P] (h : ∀ i : Fin 65, P i.val) {x : Nat} (hx : x ≤ 64) : P x := h ⟨x, by omega⟩
theorem size_le {x : Nat} : sizeF x ≤ 32 := by unfold sizeF; exact Nat.le_trans (List.length_filter_le ..) (by simp)
theorem add8 {a b : Nat} (ha : a ≤ 32) (hb : b ≤ 32) : IntKind.u8.wrap ((a : Int) + (b : Int)) = ((a + b : Nat) : Int) := by
  have e : ((a : Int) + (b : Int)) = ((a + b : Nat) : Int) := by omega
  rw [e]
  exact of_decide_eq_true (lt65 (P := fun n => decide (IntKind.u8.wrap ((n : Nat) : Int) = ((n : Nat) : Int)) = true) (by decide) (by omega))
theorem popT : ((List.range 16).all fun h => (List.range 256).all fun l => decide (sizeF (h * 256 + l) = sizeF h + sizeF l)) = true := by kernel_rfl
theorem size_two {x : Nat} (hx : x < 4096) : sizeF x = sizeF (x >>> 8 &&& 255) + sizeF (x &&& 255) := by
  have e1 : x >>> 8 &&& 255 = x / 256 := by
    rw [show (255 : Nat) = 2 ^ 8 - 1 from rfl, Nat.and_two_pow_sub_one_eq_mod, Nat.shiftRight_eq_div_pow]; omega
  have e2 : x &&& 255 = x % 256 := by rw [show (255 : Nat) = 2 ^ 8 - 1 from rfl, Nat.and_two_pow_sub_one_eq_mod]
  rw [e1, e2]
  have h := of_decide_eq_true (List.all_eq_true.1 (List.all_eq_true.1 popT (x / 256) (List.mem_range.2 (by omega))) (x % 256) (List.mem_range.2 (by omega)))
  rw [← h]; congr 1; omega
theorem an256 (x : Nat) : x &&& 255 < 256 := by
  rw [show (255 : Nat) = 2 ^ 8 - 1 from rfl, Nat.and_two_pow_sub_one_eq_mod]; exact Nat.mod_lt _ (by decide)
theorem pop_any {W : World} {x : Nat} (hx : x < 4096) : Calls Try.prog 26 #[.int .u32 ((x : Nat) : Int)] W fun e w' => e = .returned (.int .i64 ((sizeF x : Nat) : Int)) ∧ Below W.heap.size W w' := by
  have hp32 := size_le (x := x)
  refine calls_pure (Gx.enter (l := []) Try.func26 rfl Try.ntmps26 rfl (Sat.start W) ?_)
  refine Gx.know (m' := [(0, .int .u32 ((x : Nat) : Int))]) (.cons rfl .nil) ?_
  refine Gx.seq ?_
  refine Gx.region ?_
  refine Gx.val rfl rfl rfl (val_assign rfl rfl) ?_
  refine Gx.done ?_
  refine Gx.thenN ?_
  refine Gx.seq ?_
  refine Gx.regionQ Try.mixed (by kernel_rfl) ?_
  refine Gq.val rfl rfl rfl (val_move rfl rfl) ?_
  refine Gq.val rfl rfl rfl (val_shr (b := 24) rfl rfl rfl rfl (by decide) (sh0 24 hx (by decide))) ?_
  refine Gq.val rfl rfl rfl (val_popS (i := 0) (n := 0) rfl Try.underlying9 rfl rfl (by kernel_rfl)) ?_
  refine Gq.val rfl rfl rfl (val_move rfl rfl) ?_
  refine Gq.val rfl rfl rfl (val_shr (b := 16) rfl rfl rfl rfl (by decide) (sh0 16 hx (by decide))) ?_
  refine Gq.val rfl rfl rfl (val_and rfl rfl rfl (by rfl)) ?_
  refine Gq.val rfl rfl rfl (val_popS (i := 0) (n := 0) rfl Try.underlying9 rfl rfl (by kernel_rfl)) ?_
  refine Gq.val rfl rfl rfl (val_add (r := ((0 : Nat) : Int)) rfl rfl rfl (by rfl)) ?_
  refine Gq.val rfl rfl rfl (val_move rfl rfl) ?_
  refine Gq.val rfl rfl rfl (val_shr (b := 8) rfl rfl rfl rfl (by decide) (shr32 x 8)) ?_
  refine Gq.val rfl rfl rfl (val_and rfl rfl rfl (and32 (by rw [Nat.shiftRight_eq_div_pow]; omega) (by decide : 255 < 4294967296))) ?_
  refine Gq.val rfl rfl rfl (val_popS (i := (x >>> 8 &&& 255)) (n := sizeF (x >>> 8 &&& 255)) rfl Try.underlying9 rfl rfl (lt256 (P := fun x => ((_ : ByteArray)[x]?).map UInt8.toNat = some (sizeF x)) (by kernel_rfl) (an256 _))) ?_
  refine Gq.val rfl rfl rfl (val_add rfl rfl rfl (add8 (by decide) size_le)) ?_
  refine Gq.val rfl rfl rfl (val_move rfl rfl) ?_
  refine Gq.val rfl rfl rfl (val_and rfl rfl rfl (and32 (by omega : x < 4294967296) (by decide : 255 < 4294967296))) ?_
  refine Gq.val rfl rfl rfl (val_popS (i := (x &&& 255)) (n := sizeF (x &&& 255)) rfl Try.underlying9 rfl rfl (lt256 (P := fun x => ((_ : ByteArray)[x]?).map UInt8.toNat = some (sizeF x)) (by kernel_rfl) (an256 _))) ?_
  refine Gq.val rfl rfl rfl (val_add (r := ((sizeF x : Nat) : Int)) rfl rfl rfl (by rw [size_two hx, Nat.zero_add]; exact add8 size_le size_le)) ?_
  refine Gq.val rfl rfl rfl (val_conv rfl Try.underlying5 Try.underlying3 rfl (r := (((sizeF x) : Nat) : Int)) (w64 rfl (by omega))) ?_
  refine Gq.val rfl rfl rfl (val_assign rfl rfl) ?_
  refine Gq.done ?_
  refine Gx.thenN ?_
  refine Gx.ret ?_
  refine Gx.ret1 Try.results26 rfl ?_
  rfl

theorem masks1_any {W : World} {b x k : Nat} (hx : x < 4096) (hb : b < W.heap.size) (hbc : W.cell? ⟨b, 0, none⟩ = some (.int .i64 ((k : Nat) : Int))) :
    Calls Try.prog 28 #[.int .u32 ((x : Nat) : Int), ptr b 0] W fun e w' => e = .returned (.bool (decide (sizeF x ≤ k))) ∧ Below W.heap.size W w' := by
  refine calls_pure (Gx.enter (l := []) Try.func28 rfl Try.ntmps28 rfl (Sat.start W) ?_)
  refine Gx.know (m' := [(0, .int .u32 ((x : Nat) : Int)), (1, ptr b 0)]) (.cons rfl (.cons rfl .nil)) ?_
  refine Gx.seq ?_
  refine Gx.region ?_
  refine Gx.val rfl rfl rfl (val_assign rfl rfl) ?_
  refine Gx.done ?_
  refine Gx.thenN ?_
  refine Gx.seq ?_
  refine Gx.regionQ Try.mixed (by kernel_rfl) ?_
  refine Gq.val rfl rfl rfl (val_move rfl rfl) ?_
  refine Gq.val rfl rfl rfl (val_call (vs := [.int .u32 ((x : Nat) : Int)]) rfl Try.fn26 rfl (fun w H => pop_any hx)) ?_
  refine Gq.val rfl rfl rfl (val_load rfl Try.ty3 rfl rfl (cell_old hb hbc)) ?_
  refine Gq.val rfl rfl rfl (val_leq rfl rfl rfl) ?_
  refine Gq.val rfl rfl rfl (val_assign rfl rfl) ?_
  refine Gq.done ?_
  refine Gx.thenN ?_
  refine Gx.ret ?_
  refine Gx.ret1 Try.results28 rfl ?_
  exact congrArg Value.bool (decide_eq_decide.2 (by omega))

end Go.Proofs.Ytpjkpnfelpfhaaa
