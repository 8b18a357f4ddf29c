/- slices.Repeat of one bool. The walk; bits.Mul by the shelf's contract. No condition. -/
import Derived.Test.YtplcflifofomjaaA2
import Derived.Shelf.Bits.Mul64
import Derived.Ground.NamesProg
namespace Go.Proofs.Ytplcflifofomjaa
open Go.RowKit Go.Shelf
set_option linter.unusedVariables false
set_option linter.unusedSimpArgs false
set_option maxRecDepth 100000

def Try.mulA_ren : Go.Shelf.Ren := ⟨fun | 212 => 26 | 263 => 28 | 264 => 29 | n => n, fun | 46 => 47 | 51 => 23 | 146 => 52 | 53 => 54 | 148 => 55 | n => n, fun | n => n⟩
theorem Try.mulA : Go.Proofs.Lays.n212 Try.prog Try.mulA_ren := {
  mixed := by kernel_rfl
  f212 := Try.func26.trans (congrArg some (by kernel_rfl))
  f263 := Try.func28.trans (congrArg some (by kernel_rfl))
  f264 := Try.func29.trans (congrArg some (by kernel_rfl))
  t46 := Try.underlying47
  a46 := Try.isAgg47
  z46 := Try.sizeOf47
  v46 := Try.zeroValue47
  t51 := Try.underlying23
  a51 := Try.isAgg23
  z51 := Try.sizeOf23
  v51 := Try.zeroValue23
  t53 := Try.underlying54
  a53 := Try.isAgg54
  z53 := Try.sizeOf54
  v53 := Try.zeroValue54
  t146 := Try.underlying52
  a146 := Try.isAgg52
  z146 := Try.sizeOf52
  v146 := Try.zeroValue52
  t148 := Try.underlying55
  a148 := Try.isAgg55
  z148 := Try.sizeOf55
  v148 := Try.zeroValue55 }
theorem u64_wrap {a : Nat} (h : a < 9223372036854775808) : IntKind.u64.wrap (a : Int) = (a : Int) := by
  simp [IntKind.wrap, IntKind.bits, IntKind.signed]; omega
theorem mul_any {W : World} {y : Nat} (hy : y ≤ 1000) : Calls Try.prog 26 #[.int .u64 1, .int .u64 ((y : Nat) : Int)] W fun e w' => e = .returned (.tuple #[.int .u64 0, .int .u64 ((y : Nat) : Int)]) ∧ Below W.heap.size W w' := by
  have h := Any.bits_Mul Try.mulA 1 y (by omega) (by omega) W
  rw [Nat.one_mul, Nat.div_eq_of_lt (by omega), Nat.mod_eq_of_lt (by omega)] at h
  exact h.mono fun e w' ⟨he, hw⟩ => ⟨he, by rw [hw]; exact Below.refl _ _⟩
/-- all of the first are so -/
def Pre (b : Bool) (k : Nat) (xs : List Bool) : Prop := ∀ (j : Nat) (x : Bool), j < k → xs[j]? = some x → x = b
theorem Pre.all {b : Bool} {xs : List Bool} {n : Nat} (h : Pre b n xs) (hl : xs.length = n) : xs = List.replicate n b := List.eq_replicate_iff.2 ⟨hl, fun x hx => by
  obtain ⟨j, hj⟩ := List.getElem?_of_mem hx
  exact h j x (by have := (List.getElem?_eq_some_iff.1 hj).1; omega) hj⟩
theorem Pre.ovw {b : Bool} {xs ys : List Bool} {k q : Nat} (h : Pre b k xs) (hy : ∀ y ∈ ys, y = b) (h1 : k + q ≤ xs.length) (h2 : q ≤ ys.length) : Pre b (k + q) (ovw xs ys k q) := fun j x hj hx => by
  rw [ovw_at h1 h2] at hx
  by_cases c : j < k
  · rw [if_pos c] at hx; exact h j x c hx
  · rw [if_neg c, if_pos hj] at hx; exact hy x (List.mem_of_getElem? hx)
theorem Pre.take {b : Bool} {xs : List Bool} {k : Nat} (h : Pre b k xs) : ∀ y ∈ xs.take k, y = b := fun y hy => by
  obtain ⟨j, hj⟩ := List.getElem?_of_mem hy
  rw [List.getElem?_take] at hj
  split at hj
  · exact h j y (by assumption) hj
  · cases hj
theorem repeat_any {W : World} {xv : Value} {b : Bool} {n : Nat} (hx : SlS FB 1 W xv [b]) (h1n : 1 ≤ n) (h12 : n ≤ 12) : Calls Try.prog 18 #[xv, .int .i64 ((n : Nat) : Int)] W (Ret W fun v l => IsS v ∧ l = [Hp.own FB 1 v (List.replicate n b)]) := by
  refine Gx.enter (l := []) Try.func18 rfl Try.ntmps18 rfl (Sat.start W) ?_
  refine Gx.know (m' := [(0, xv), (1, .int .i64 ((n : Nat) : Int))]) (.cons rfl (.cons rfl .nil)) ?_
  refine Gx.seq ?_
  refine Gx.region ?_
  refine Gx.val rfl rfl rfl (val_assign rfl rfl) ?_
  refine Gx.done ?_
  refine Gx.thenN ?_
  refine Gx.seq ?_
  refine Gx.seq ?_
  refine Gx.region ?_
  refine Gx.val rfl rfl rfl (val_move rfl rfl) ?_
  refine Gx.val rfl rfl rfl (val_lss rfl rfl rfl) ?_
  refine Gx.done ?_
  refine Gx.thenN ?_
  refine Gx.decF rfl (by omega) ?_
  refine Gx.skip ?_
  refine Gx.thenN ?_
  refine Gx.seq ?_
  refine Gx.region ?_
  refine Gx.val rfl rfl rfl (val_move rfl rfl) ?_
  refine Gx.val rfl rfl rfl (val_len rfl Try.underlying36 rfl (len_base hx)) ?_
  refine Gx.val rfl rfl rfl (val_conv rfl Try.underlying3 Try.underlying47 rfl (r := 1) (by rfl)) ?_
  refine Gx.val rfl rfl rfl (val_move rfl rfl) ?_
  refine Gx.val rfl rfl rfl (val_conv rfl Try.underlying3 Try.underlying47 rfl (r := ((n : Nat) : Int)) (u64_wrap (by omega))) ?_
  refine Gx.val rfl rfl rfl (val_call (vs := [.int .u64 1, .int .u64 ((n : Nat) : Int)]) rfl Try.fn26 rfl (fun w H => mul_any (by omega))) ?_
  refine Gx.val rfl rfl rfl (val_move rfl rfl) ?_
  refine Gx.val rfl rfl rfl (val_extract rfl rfl rfl) ?_
  refine Gx.val rfl rfl rfl (val_extract rfl rfl rfl) ?_
  refine Gx.val rfl rfl rfl (val_assign rfl rfl) ?_
  refine Gx.val rfl rfl rfl (val_assign rfl rfl) ?_
  refine Gx.done ?_
  refine Gx.thenN ?_
  refine Gx.seq ?_
  refine Gx.seq ?_
  refine Gx.region ?_
  refine Gx.val rfl rfl rfl (val_move rfl rfl) ?_
  refine Gx.val rfl rfl rfl (Val.cast (val_gtr rfl rfl rfl) (v' := .bool false) rfl) ?_
  refine Gx.val rfl rfl rfl (val_move rfl rfl) ?_
  refine Gx.valg rfl rfl rfl rfl rfl (val_move rfl rfl) ?_
  refine Gx.valg rfl rfl rfl rfl rfl (val_gtr rfl rfl rfl) ?_
  refine Gx.val rfl rfl rfl (val_pickF rfl rfl rfl) ?_
  refine Gx.done ?_
  refine Gx.thenN ?_
  refine Gx.decF rfl (by omega) ?_
  refine Gx.skip ?_
  refine Gx.thenN ?_
  refine Gx.seq ?_
  refine Gx.region ?_
  refine Gx.val rfl rfl rfl (val_move rfl rfl) ?_
  refine Gx.val rfl rfl rfl (val_conv rfl Try.underlying47 Try.underlying3 rfl (r := ((n : Nat) : Int)) (w64 rfl (by omega))) ?_
  refine Gx.eff rfl rfl rfl (eff_makeSlice (n := n) (f := FB) rfl Try.underlying36 Try.ty4 rfl rfl (rfl) (rfl) FB_len false rfl (by omega) (by omega)) ?_
  rintro v1 _ ⟨hiv1, rfl⟩
  refine Gx.val rfl rfl rfl (val_assign rfl rfl) ?_
  refine Gx.done ?_
  refine Gx.thenN ?_
  refine Gx.seq ?_
  refine Gx.region ?_
  refine Gx.val rfl rfl rfl (val_move rfl rfl) ?_
  refine Gx.val rfl rfl rfl (val_move rfl rfl) ?_
  refine Gx.eff rfl rfl rfl (eff_copyO (p := Value.bool) (lo := 0) (up := n) (q := 1) (ys := [b]) rfl Try.underlying36 (by kernel_rfl) rfl (show ∀ w, Sat _ w (sep _) → _ = sCut 1 0 n _ from fun w H => by have := sCut_own (k := 0) rfl w H; rw [List.length_replicate] at this; exact this) rfl (k := 0) rfl (fun w H => hx.below H.below) (fun _ => rfl) (by first | omega | (simp; done)) (by first | omega | (simp; done)) (by simp [Nat.min_def]; omega) (l' := [Hp.own FB 1 v1 (ovw (List.replicate n false) ([b]) 0 1)]) rfl) ?_
  rintro _ _ ⟨rfl, rfl⟩
  refine Gx.val rfl rfl rfl (val_assign rfl rfl) ?_
  refine Gx.done ?_
  refine Gx.thenN ?_
  refine Gx.seq ?_
  refine Gx.block ?_
  have hp1 : Pre b 1 (ovw (List.replicate n false) ([b]) 0 1) := by
    have := Pre.ovw (b := b) (xs := List.replicate n false) (ys := [b]) (k := 0) (q := 1) (fun j x h => absurd h (Nat.not_lt_zero _)) (by simp) (by rw [List.length_replicate]; omega) (by simp)
    simpa using this
  have hol1 : (ovw (List.replicate n false) ([b]) 0 1).length = n := by rw [ovw_len (by rw [List.length_replicate]; omega) (by simp), List.length_replicate]
  refine Gx.loop (ι := Nat × (List Bool)) (fun ξ => (ξ.1 ≤ n) ∧ (1 ≤ ξ.1) ∧ (ξ.2.length = n) ∧ (Pre b ξ.1 ξ.2)) (fun ξ => [(7, v1), (8, .int .i64 ((ξ.1 : Nat) : Int))]) (fun ξ => [Hp.own FB 1 v1 ξ.2]) (fun ξ => n - ξ.1) (1, (ovw (List.replicate n false) ([b]) 0 1)) ⟨by first | omega | (dsimp only; omega), by first | omega | (dsimp only; omega), hol1, hp1⟩ ((.cons rfl (.cons rfl .nil))) rfl ?_
  rintro ⟨k, xs⟩ ⟨hk, hk1, hxl, hpr⟩
  dsimp only at hk hk1 hxl hpr
  refine Gx.know (m' := [(7, v1), (8, .int .i64 ((k : Nat) : Int))]) (.cons rfl (.cons rfl .nil)) (Gx.norm (l' := [Hp.own FB 1 v1 xs]) rfl ?_)
  refine Gx.seq ?_
  refine Gx.seq ?_
  refine Gx.region ?_
  refine Gx.val rfl rfl rfl (val_move rfl rfl) ?_
  refine Gx.val rfl rfl rfl (val_move rfl rfl) ?_
  refine Gx.val rfl rfl rfl (val_len rfl Try.underlying36 rfl (len_own (k := 0) rfl)) ?_
  refine Gx.val rfl rfl rfl (val_lss rfl rfl rfl) ?_
  refine Gx.done ?_
  refine Gx.thenN ?_
  refine Gx.dec rfl (fun h3 => ?_) (fun h3 => ?_)
  · refine Gx.skip ?_
    refine Gx.thenN ?_
    refine Gx.block ?_
    obtain ⟨q, hq⟩ : ∃ q, q = Nat.min k (n - k) := ⟨_, rfl⟩
    have hq1 : q = min k (n - k) := hq
    refine Gx.regionO (fun j => j == 7) 9 [0, 1, 2, 3, 4, 5, 6, 7, 8] (fun us => match us with | [] => [Hp.own FB 1 v1 xs] | u1 :: _ => [Hp.own FB 1 v1 (ovw xs (xs.take k) k q)]) Try.mixed (by kernel_rfl) rfl ?_
    refine Gw.val rfl rfl rfl rfl rfl (fun us => val_move rfl rfl) ?_
    refine Gw.val rfl rfl rfl rfl rfl (fun us => val_move rfl rfl) ?_
    refine Gw.val rfl rfl rfl rfl rfl (fun us => val_move rfl rfl) ?_
    refine Gw.val0 rfl rfl rfl (by kernel_rfl) rfl rfl (val_cutFromO (lo := k) rfl Try.underlying36 Try.ty4 rfl (n := 0) rfl rfl (rfl) (by omega)) ?_
    refine Gw.val rfl rfl rfl rfl rfl (fun us => val_move rfl rfl) ?_
    refine Gw.val rfl rfl rfl rfl rfl (fun us => val_move rfl rfl) ?_
    refine Gw.val0 rfl rfl rfl (by kernel_rfl) rfl rfl (val_cutToO (up := k) rfl Try.underlying36 Try.ty4 rfl (n := 0) rfl rfl (rfl) (by omega)) ?_
    refine Gw.chg rfl rfl rfl rfl rfl (fun v => v = .int .i64 ((q : Nat) : Int)) (Eff.mono (eff_copyO (p := Value.bool) (lo := k) (up := xs.length) (q := q) (ys := xs.take k) rfl Try.underlying36 (by kernel_rfl) rfl (fun w H => rfl) rfl (k := 0) rfl (fun w H => by have h9 := ((H.at_ (k := 0) rfl).sls (by omega)).cut (lo := 0) (hi := k) (Nat.zero_le _) (by omega); rw [List.drop_zero] at h9; exact h9) (fun _ => rfl) (by first | omega | (simp; done)) (by first | omega | (simp; done)) (by rw [List.length_take, Nat.min_eq_left (by omega), hxl]; exact hq) (l' := [Hp.own FB 1 v1 (ovw xs (xs.take k) k q)]) rfl) (fun _ _ h => ⟨h.1, congrArg sep h.2⟩)) ?_
    rintro _ rfl
    refine Gw.val rfl rfl rfl rfl rfl (fun us => val_add rfl rfl rfl (r := ((k + q : Nat) : Int)) (w64 (by omega) (by omega))) ?_
    refine Gw.done ?_
    refine Gx.norm (l' := [Hp.own FB 1 v1 (ovw xs (xs.take k) k q)]) rfl ?_
    refine Gx.val rfl rfl rfl (val_assign rfl rfl) ?_
    refine Gx.done ?_
    refine Gx.blkN ?_
    refine Gx.thenN ?_
    exact Gx.round (k + q, (ovw xs (xs.take k) k q)) ⟨by first | omega | (dsimp only; omega), by first | omega | (dsimp only; omega), by dsimp only; rw [ovw_len (by omega) (by rw [List.length_take]; omega)]; exact hxl, Pre.ovw hpr (Pre.take hpr) (by omega) (by rw [List.length_take]; omega)⟩ (by dsimp only; omega) ((.cons rfl (.cons rfl .nil))) rfl
  · refine Gx.exit ?_
    refine Gx.thenE ?_
    refine Gx.thenE ?_
    refine Gx.blkE ?_
    refine Gx.thenN ?_
    refine Gx.seq ?_
    refine Gx.region ?_
    refine Gx.val rfl rfl rfl (val_move rfl rfl) ?_
    refine Gx.val rfl rfl rfl (val_assign rfl rfl) ?_
    refine Gx.done ?_
    refine Gx.thenN ?_
    refine Gx.ret ?_
    refine Gx.ret1 Try.results18 rfl ?_
    obtain rfl : k = n := by omega
    exact ⟨hiv1, by rw [hpr.all hxl]⟩

end Go.Proofs.Ytplcflifofomjaa
