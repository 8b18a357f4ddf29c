/- slices.Repeat of one number; from which write each read reads. The walks; bits.Mul by the shelf's contract. No condition. -/
import Derived.Test.YtcepfpbhfobbeaaM1
import Derived.Test.YtcepfpbhfobbeaaX19
import Derived.Shelf.Bits.Mul64
import Derived.Ground.NamesProg
namespace Go.Proofs.Ytcepfpbhfobbeaa
open Go.RowKit Go.Shelf
set_option linter.unusedVariables false
set_option linter.unusedSimpArgs false
set_option maxRecDepth 100000

def Try.mulA_ren : Go.Shelf.Ren := ⟨fun | 212 => 21 | 263 => 22 | 264 => 23 | n => n, fun | 46 => 46 | 51 => 49 | 146 => 50 | 53 => 52 | 148 => 53 | n => n, fun | n => n⟩
theorem Try.mulA : Go.Proofs.Lays.n212 Try.prog Try.mulA_ren := {
  mixed := by kernel_rfl
  f212 := Try.func21.trans (congrArg some (by kernel_rfl))
  f263 := Try.func22.trans (congrArg some (by kernel_rfl))
  f264 := Try.func23.trans (congrArg some (by kernel_rfl))
  t46 := Try.underlying46
  a46 := Try.isAgg46
  z46 := Try.sizeOf46
  v46 := Try.zeroValue46
  t51 := Try.underlying49
  a51 := Try.isAgg49
  z51 := Try.sizeOf49
  v51 := Try.zeroValue49
  t53 := Try.underlying52
  a53 := Try.isAgg52
  z53 := Try.sizeOf52
  v53 := Try.zeroValue52
  t146 := Try.underlying50
  a146 := Try.isAgg50
  z146 := Try.sizeOf50
  v146 := Try.zeroValue50
  t148 := Try.underlying53
  a148 := Try.isAgg53
  z148 := Try.sizeOf53
  v148 := Try.zeroValue53 }
theorem u64_wrap {a : Nat} (h : a < 9223372036854775808) : IntKind.u64.wrap (a : Int) = (a : Int) := by
  simp [IntKind.wrap, IntKind.bits, IntKind.signed]; omega
theorem mul_any {W : World} {y : Nat} (hy : y ≤ 1000) : Calls Try.prog 21 #[.int .u64 1, .int .u64 ((y : Nat) : Int)] W fun e w' => e = .returned (.tuple #[.int .u64 0, .int .u64 ((y : Nat) : Int)]) ∧ Below W.heap.size W w' := by
  have h := Any.bits_Mul Try.mulA 1 y (by omega) (by omega) W
  rw [Nat.one_mul, Nat.div_eq_of_lt (by omega), Nat.mod_eq_of_lt (by omega)] at h
  exact h.mono fun e w' ⟨he, hw⟩ => ⟨he, by rw [hw]; exact Below.refl _ _⟩
/-- all of the first are so -/
def Pre (b : Int) (k : Nat) (xs : List Int) : Prop := ∀ (j : Nat) (x : Int), j < k → xs[j]? = some x → x = b
theorem Pre.all {b : Int} {xs : List Int} {n : Nat} (h : Pre b n xs) (hl : xs.length = n) : xs = List.replicate n b := List.eq_replicate_iff.2 ⟨hl, fun x hx => by
  obtain ⟨j, hj⟩ := List.getElem?_of_mem hx
  exact h j x (by have := (List.getElem?_eq_some_iff.1 hj).1; omega) hj⟩
theorem Pre.ovw {b : Int} {xs ys : List Int} {k q : Nat} (h : Pre b k xs) (hy : ∀ y ∈ ys, y = b) (h1 : k + q ≤ xs.length) (h2 : q ≤ ys.length) : Pre b (k + q) (ovw xs ys k q) := fun j x hj hx => by
  rw [ovw_at h1 h2] at hx
  by_cases c : j < k
  · rw [if_pos c] at hx; exact h j x c hx
  · rw [if_neg c, if_pos hj] at hx; exact hy x (List.mem_of_getElem? hx)
theorem Pre.take {b : Int} {xs : List Int} {k : Nat} (h : Pre b k xs) : ∀ y ∈ xs.take k, y = b := fun y hy => by
  obtain ⟨j, hj⟩ := List.getElem?_of_mem hy
  rw [List.getElem?_take] at hj
  split at hj
  · exact h j y (by assumption) hj
  · cases hj
theorem repeat_any {W : World} {xv : Value} {b : Int} {n : Nat} (hx : SlS FZ 1 W xv [b]) (h1n : 1 ≤ n) (h12 : n ≤ 12) : Calls Try.prog 19 #[xv, .int .i64 ((n : Nat) : Int)] W (Ret W fun v l => IsS v ∧ l = [Hp.own FZ 1 v (List.replicate n b)]) := by
  refine Gx.enter (l := []) Try.func19 rfl Try.ntmps19 rfl (Sat.start W) ?_
  refine Gx.know (m' := [(0, xv), (1, .int .i64 ((n : Nat) : Int))]) (.cons rfl (.cons rfl .nil)) ?_
  refine Gx.seq ?_
  refine Gx.region ?_
  refine Gx.val rfl rfl rfl (val_assign rfl rfl) ?_
  refine Gx.done ?_
  refine Gx.thenN ?_
  refine Gx.seq ?_
  refine Gx.seq ?_
  refine Gx.region ?_
  refine Gx.val rfl rfl rfl (val_move rfl rfl) ?_
  refine Gx.val rfl rfl rfl (val_lss rfl rfl rfl) ?_
  refine Gx.done ?_
  refine Gx.thenN ?_
  refine Gx.decF rfl (by omega) ?_
  refine Gx.skip ?_
  refine Gx.thenN ?_
  refine Gx.seq ?_
  refine Gx.region ?_
  refine Gx.val rfl rfl rfl (val_move rfl rfl) ?_
  refine Gx.val rfl rfl rfl (val_len rfl Try.underlying23 rfl (len_base hx)) ?_
  refine Gx.val rfl rfl rfl (val_conv rfl Try.underlying3 Try.underlying46 rfl (r := 1) (by rfl)) ?_
  refine Gx.val rfl rfl rfl (val_move rfl rfl) ?_
  refine Gx.val rfl rfl rfl (val_conv rfl Try.underlying3 Try.underlying46 rfl (r := ((n : Nat) : Int)) (u64_wrap (by omega))) ?_
  refine Gx.val rfl rfl rfl (val_call (vs := [.int .u64 1, .int .u64 ((n : Nat) : Int)]) rfl Try.fn21 rfl (fun w H => mul_any (by omega))) ?_
  refine Gx.val rfl rfl rfl (val_move rfl rfl) ?_
  refine Gx.val rfl rfl rfl (val_extract rfl rfl rfl) ?_
  refine Gx.val rfl rfl rfl (val_extract rfl rfl rfl) ?_
  refine Gx.val rfl rfl rfl (val_assign rfl rfl) ?_
  refine Gx.val rfl rfl rfl (val_assign rfl rfl) ?_
  refine Gx.done ?_
  refine Gx.thenN ?_
  refine Gx.seq ?_
  refine Gx.seq ?_
  refine Gx.region ?_
  refine Gx.val rfl rfl rfl (val_move rfl rfl) ?_
  refine Gx.val rfl rfl rfl (Val.cast (val_gtr rfl rfl rfl) (v' := .bool false) rfl) ?_
  refine Gx.val rfl rfl rfl (val_move rfl rfl) ?_
  refine Gx.valg rfl rfl rfl rfl rfl (val_move rfl rfl) ?_
  refine Gx.valg rfl rfl rfl rfl rfl (val_gtr rfl rfl rfl) ?_
  refine Gx.val rfl rfl rfl (val_pickF rfl rfl rfl) ?_
  refine Gx.done ?_
  refine Gx.thenN ?_
  refine Gx.decF rfl (by omega) ?_
  refine Gx.skip ?_
  refine Gx.thenN ?_
  refine Gx.seq ?_
  refine Gx.region ?_
  refine Gx.val rfl rfl rfl (val_move rfl rfl) ?_
  refine Gx.val rfl rfl rfl (val_conv rfl Try.underlying46 Try.underlying3 rfl (r := ((n : Nat) : Int)) (w64 rfl (by omega))) ?_
  refine Gx.eff rfl rfl rfl (eff_makeSlice (n := n) (f := FZ) rfl Try.underlying23 Try.ty3 rfl rfl (rfl) (rfl) FZ_len 0 rfl (by omega) (by omega)) ?_
  rintro v1 _ ⟨hiv1, rfl⟩
  refine Gx.val rfl rfl rfl (val_assign rfl rfl) ?_
  refine Gx.done ?_
  refine Gx.thenN ?_
  refine Gx.seq ?_
  refine Gx.region ?_
  refine Gx.val rfl rfl rfl (val_move rfl rfl) ?_
  refine Gx.val rfl rfl rfl (val_move rfl rfl) ?_
  refine Gx.eff rfl rfl rfl (eff_copyO (p := Value.int .i64) (lo := 0) (up := n) (q := 1) (ys := [b]) rfl Try.underlying23 (by kernel_rfl) rfl (show ∀ w, Sat _ w (sep _) → _ = sCut 1 0 n _ from fun w H => by have := sCut_own (k := 0) rfl w H; rw [List.length_replicate] at this; exact this) rfl (k := 0) rfl (fun w H => hx.below H.below) (fun _ => rfl) (by first | omega | (simp; done)) (by first | omega | (simp; done)) (by simp [Nat.min_def]; omega) (l' := [Hp.own FZ 1 v1 (ovw (List.replicate n 0) ([b]) 0 1)]) rfl) ?_
  rintro _ _ ⟨rfl, rfl⟩
  refine Gx.val rfl rfl rfl (val_assign rfl rfl) ?_
  refine Gx.done ?_
  refine Gx.thenN ?_
  refine Gx.seq ?_
  refine Gx.block ?_
  have hp1 : Pre b 1 (ovw (List.replicate n 0) ([b]) 0 1) := by
    have := Pre.ovw (b := b) (xs := List.replicate n 0) (ys := [b]) (k := 0) (q := 1) (fun j x h => absurd h (Nat.not_lt_zero _)) (by simp) (by rw [List.length_replicate]; omega) (by simp)
    simpa using this
  have hol1 : (ovw (List.replicate n 0) ([b]) 0 1).length = n := by rw [ovw_len (by rw [List.length_replicate]; omega) (by simp), List.length_replicate]
  refine Gx.loop (ι := Nat × (List Int)) (fun ξ => (ξ.1 ≤ n) ∧ (1 ≤ ξ.1) ∧ (ξ.2.length = n) ∧ (Pre b ξ.1 ξ.2)) (fun ξ => [(7, v1), (8, .int .i64 ((ξ.1 : Nat) : Int))]) (fun ξ => [Hp.own FZ 1 v1 ξ.2]) (fun ξ => n - ξ.1) (1, (ovw (List.replicate n 0) ([b]) 0 1)) ⟨by first | omega | (dsimp only; omega), by first | omega | (dsimp only; omega), hol1, hp1⟩ ((.cons rfl (.cons rfl .nil))) rfl ?_
  rintro ⟨k, xs⟩ ⟨hk, hk1, hxl, hpr⟩
  dsimp only at hk hk1 hxl hpr
  refine Gx.know (m' := [(7, v1), (8, .int .i64 ((k : Nat) : Int))]) (.cons rfl (.cons rfl .nil)) (Gx.norm (l' := [Hp.own FZ 1 v1 xs]) rfl ?_)
  refine Gx.seq ?_
  refine Gx.seq ?_
  refine Gx.region ?_
  refine Gx.val rfl rfl rfl (val_move rfl rfl) ?_
  refine Gx.val rfl rfl rfl (val_move rfl rfl) ?_
  refine Gx.val rfl rfl rfl (val_len rfl Try.underlying23 rfl (len_own (k := 0) rfl)) ?_
  refine Gx.val rfl rfl rfl (val_lss rfl rfl rfl) ?_
  refine Gx.done ?_
  refine Gx.thenN ?_
  refine Gx.dec rfl (fun h2 => ?_) (fun h2 => ?_)
  · refine Gx.skip ?_
    refine Gx.thenN ?_
    refine Gx.block ?_
    obtain ⟨q, hq⟩ : ∃ q, q = Nat.min k (n - k) := ⟨_, rfl⟩
    have hq1 : q = min k (n - k) := hq
    refine Gx.regionO (fun j => j == 7) 9 [0, 1, 2, 3, 4, 5, 6, 7, 8] (fun us => match us with | [] => [Hp.own FZ 1 v1 xs] | u1 :: _ => [Hp.own FZ 1 v1 (ovw xs (xs.take k) k q)]) Try.mixed (by kernel_rfl) rfl ?_
    refine Gw.val rfl rfl rfl rfl rfl (fun us => val_move rfl rfl) ?_
    refine Gw.val rfl rfl rfl rfl rfl (fun us => val_move rfl rfl) ?_
    refine Gw.val rfl rfl rfl rfl rfl (fun us => val_move rfl rfl) ?_
    refine Gw.val0 rfl rfl rfl (by kernel_rfl) rfl rfl (val_cutFromO (lo := k) rfl Try.underlying23 Try.ty3 rfl (n := 0) rfl rfl (rfl) (by omega)) ?_
    refine Gw.val rfl rfl rfl rfl rfl (fun us => val_move rfl rfl) ?_
    refine Gw.val rfl rfl rfl rfl rfl (fun us => val_move rfl rfl) ?_
    refine Gw.val0 rfl rfl rfl (by kernel_rfl) rfl rfl (val_cutToO (up := k) rfl Try.underlying23 Try.ty3 rfl (n := 0) rfl rfl (rfl) (by omega)) ?_
    refine Gw.chg rfl rfl rfl rfl rfl (fun v => v = .int .i64 ((q : Nat) : Int)) (Eff.mono (eff_copyO (p := Value.int .i64) (lo := k) (up := xs.length) (q := q) (ys := xs.take k) rfl Try.underlying23 (by kernel_rfl) rfl (fun w H => rfl) rfl (k := 0) rfl (fun w H => by have h9 := ((H.at_ (k := 0) rfl).sls (by omega)).cut (lo := 0) (hi := k) (Nat.zero_le _) (by omega); rw [List.drop_zero] at h9; exact h9) (fun _ => rfl) (by first | omega | (simp; done)) (by first | omega | (simp; done)) (by rw [List.length_take, Nat.min_eq_left (by omega), hxl]; exact hq) (l' := [Hp.own FZ 1 v1 (ovw xs (xs.take k) k q)]) rfl) (fun _ _ h => ⟨h.1, congrArg sep h.2⟩)) ?_
    rintro _ rfl
    refine Gw.val rfl rfl rfl rfl rfl (fun us => val_add rfl rfl rfl (r := ((k + q : Nat) : Int)) (w64 (by omega) (by omega))) ?_
    refine Gw.done ?_
    refine Gx.norm (l' := [Hp.own FZ 1 v1 (ovw xs (xs.take k) k q)]) rfl ?_
    refine Gx.val rfl rfl rfl (val_assign rfl rfl) ?_
    refine Gx.done ?_
    refine Gx.blkN ?_
    refine Gx.thenN ?_
    exact Gx.round (k + q, (ovw xs (xs.take k) k q)) ⟨by first | omega | (dsimp only; omega), by first | omega | (dsimp only; omega), by dsimp only; rw [ovw_len (by omega) (by rw [List.length_take]; omega)]; exact hxl, Pre.ovw hpr (Pre.take hpr) (by omega) (by rw [List.length_take]; omega)⟩ (by dsimp only; omega) ((.cons rfl (.cons rfl .nil))) rfl
  · refine Gx.exit ?_
    refine Gx.thenE ?_
    refine Gx.thenE ?_
    refine Gx.blkE ?_
    refine Gx.thenN ?_
    refine Gx.seq ?_
    refine Gx.region ?_
    refine Gx.val rfl rfl rfl (val_move rfl rfl) ?_
    refine Gx.val rfl rfl rfl (val_assign rfl rfl) ?_
    refine Gx.done ?_
    refine Gx.thenN ?_
    refine Gx.ret ?_
    refine Gx.ret1 Try.results19 rfl ?_
    obtain rfl : k = n := by omega
    exact ⟨hiv1, by rw [hpr.all hxl]⟩

theorem reads_no {W : World} {hv : Value} {l : List Act} (hok : ¬ OkA l) (hs : SlS FR 3 W hv l) :
    Calls Try.prog 15 #[hv] W fun e w' => ∃ v, e = .returned v ∧ (∃ (c : Int), v = .tuple #[.slice none 0 0, .int .i64 c] ∧ c ≠ 0) ∧ Below W.heap.size W w' := by
  refine calls_rel (R := fun v => ∃ (c : Int), v = .tuple #[.slice none 0 0, .int .i64 c] ∧ c ≠ 0) (Gx.enter (l := []) Try.func15 rfl Try.ntmps15 rfl (Sat.start W) ?_)
  refine Gx.know (m' := [(0, hv)]) (.cons rfl .nil) ?_
  refine Gx.seq ?_
  refine Gx.region ?_
  refine Gx.val rfl rfl rfl (val_assign rfl rfl) ?_
  refine Gx.val rfl rfl rfl (val_assign rfl rfl) ?_
  refine Gx.done ?_
  refine Gx.thenN ?_
  refine Gx.seq ?_
  refine Gx.seq ?_
  refine Gx.region ?_
  refine Gx.val rfl rfl rfl (val_move rfl rfl) ?_
  refine Gx.eff rfl rfl rfl (eff_callE (vs := [hv]) rfl Try.fn16 rfl (R := fun v => ∃ c : Int, v = .int .i64 c ∧ c ≠ 0) (fun w H => check_no (hs.below H.below) hok)) ?_
  rintro _ _ ⟨⟨c1, rfl, hc1⟩, rfl⟩
  refine Gx.val rfl rfl rfl (val_assign rfl rfl) ?_
  refine Gx.done ?_
  refine Gx.thenN ?_
  refine Gx.seq ?_
  refine Gx.region ?_
  refine Gx.val rfl rfl rfl (val_move rfl rfl) ?_
  refine Gx.val rfl rfl rfl (val_neq rfl rfl rfl) ?_
  refine Gx.done ?_
  refine Gx.thenN ?_
  refine Gx.decT rfl (by assumption) ?_
  refine Gx.seq ?_
  refine Gx.region ?_
  refine Gx.val rfl rfl rfl (val_move rfl rfl) ?_
  refine Gx.val rfl rfl rfl (val_assign rfl rfl) ?_
  refine Gx.val rfl rfl rfl (val_assign rfl rfl) ?_
  refine Gx.done ?_
  refine Gx.thenN ?_
  refine Gx.ret ?_
  refine Gx.thenR ?_
  refine Gx.ret2 Try.results15 rfl rfl ?_
  exact ⟨_, rfl, by assumption⟩

theorem reads_ok {W : World} {hv : Value} {l : List An} (hok : OkN l) (hs : SlS FA 3 W hv l) :
    Calls Try.prog 15 #[hv] W fun e w' => ∃ v, e = .returned v ∧ (∃ rv : Value, v = .tuple #[rv, .int .i64 0] ∧ SlS FZ 1 w' rv (rdL l l.length)) ∧ Below W.heap.size W w' := by
  refine calls_some (S := fun v l' => ∃ rv : Value, v = .tuple #[rv, .int .i64 0] ∧ l' = [Hp.own FZ 1 rv (rdL l l.length)]) (Gx.enter (l := []) Try.func15 rfl Try.ntmps15 rfl (Sat.start W) ?_) ?_
  refine Gx.know (m' := [(0, hv)]) (.cons rfl .nil) ?_
  refine Gx.seq ?_
  refine Gx.region ?_
  refine Gx.val rfl rfl rfl (val_assign rfl rfl) ?_
  refine Gx.val rfl rfl rfl (val_assign rfl rfl) ?_
  refine Gx.done ?_
  refine Gx.thenN ?_
  refine Gx.seq ?_
  refine Gx.seq ?_
  refine Gx.region ?_
  refine Gx.val rfl rfl rfl (val_move rfl rfl) ?_
  refine Gx.val rfl rfl rfl (val_call (vs := [hv]) rfl Try.fn16 rfl (fun w H => check_ok (hs.below H.below) hok)) ?_
  refine Gx.val rfl rfl rfl (val_assign rfl rfl) ?_
  refine Gx.done ?_
  refine Gx.thenN ?_
  refine Gx.seq ?_
  refine Gx.region ?_
  refine Gx.val rfl rfl rfl (val_move rfl rfl) ?_
  refine Gx.val rfl rfl rfl (Val.cast (val_neq rfl rfl rfl) (v' := .bool false) rfl) ?_
  refine Gx.done ?_
  refine Gx.thenN ?_
  refine Gx.f rfl ?_
  refine Gx.skip ?_
  refine Gx.thenN ?_
  refine Gx.seq ?_
  refine Gx.region ?_
  refine Gx.eff rfl rfl rfl (eff_buildSlice rfl (qs := [(0, .int .i64 (-1))]) rfl rfl (cs := #[.int .i64 (-1)]) (vs := [.int .i64 (-1)]) (E := 3) rfl (fun w => by first | (go_simp; done) | (go_simp; rfl))) ?_
  rintro _ _ ⟨b1, rfl, rfl⟩
  refine Gx.part (k := 0) rfl (q := Hp.own FZ 1 (.slice (some ⟨b1, 0, none⟩) 1 1) ([(-1)])) (own_of_rec (f := FZ) (xs := [(-1)]) FZ_len rfl) ?_
  refine Gx.norm (l' := [Hp.own FZ 1 (.slice (some ⟨b1, 0, none⟩) 1 1) ([(-1)])]) rfl ?_
  refine Gx.eff rfl rfl rfl (eff_callN (vs := [.slice (some ⟨b1, 0, none⟩) 1 1, .int .i64 4]) rfl Try.fn19 rfl (fun w H => repeat_any (n := 4) ((H.at_ (k := 0) rfl).sls (by simp)) (by omega) (by omega))) ?_
  rintro lv _ ⟨_, ⟨hilv, rfl⟩, rfl⟩
  refine Gx.norm (l' := [Hp.own FZ 1 lv (List.replicate 4 (-1)), Hp.own FZ 1 (.slice (some ⟨b1, 0, none⟩) 1 1) ([(-1)])]) rfl ?_
  refine Gx.val rfl rfl rfl (val_assign rfl rfl) ?_
  refine Gx.done ?_
  refine Gx.thenN ?_
  refine Gx.seq ?_
  refine Gx.drop 1 rfl ?_
  refine Gx.region ?_
  refine Gx.val rfl rfl rfl (val_assign rfl rfl) ?_
  refine Gx.done ?_
  refine Gx.thenN ?_
  refine Gx.seq ?_
  refine Gx.seq ?_
  refine Gx.ownNil FZ 1 ?_
  refine Gx.region ?_
  refine Gx.val rfl rfl rfl (val_move rfl rfl) ?_
  refine Gx.val rfl rfl rfl (val_len rfl Try.underlying22 rfl (len_base hs)) ?_
  refine Gx.val rfl rfl rfl (val_move rfl rfl) ?_
  refine Gx.done ?_
  refine Gx.thenN ?_
  refine Gx.block ?_
  refine Gx.norm (l' := [Hp.own FZ 1 (.slice none 0 0) (rdL l 0), Hp.own FZ 1 lv (lstL l 0)]) rfl ?_
  refine Gx.front 0 rfl ?_
  refine Gx.front 1 rfl ?_
  refine Gx.loop (ι := Nat × Value) (fun ξ => (ξ.1 ≤ l.length) ∧ (IsS ξ.2)) (fun ξ => [(0, hv), (5, lv), (6, ξ.2), (17, hv), (18, .int .i64 ((l.length : Nat) : Int)), (19, .int .i64 ((ξ.1 : Nat) : Int))]) (fun ξ => [Hp.own FZ 1 lv (lstL l ξ.1), Hp.own FZ 1 ξ.2 (rdL l ξ.1)]) (fun ξ => l.length - ξ.1) (0, (.slice none 0 0)) ⟨by first | omega | (dsimp only; omega), ⟨none, 0, 0, rfl⟩⟩ ((.cons rfl (.cons rfl (.cons rfl (.cons rfl (.cons rfl (.cons rfl .nil))))))) rfl ?_
  rintro ⟨i, zv⟩ ⟨hi, hiz⟩
  dsimp only at hi hiz
  refine Gx.know (m' := [(0, hv), (5, lv), (6, zv), (17, hv), (18, .int .i64 ((l.length : Nat) : Int)), (19, .int .i64 ((i : Nat) : Int))]) (.cons rfl (.cons rfl (.cons rfl (.cons rfl (.cons rfl (.cons rfl .nil)))))) (Gx.norm (l' := [Hp.own FZ 1 lv (lstL l i), Hp.own FZ 1 zv (rdL l i)]) rfl ?_)
  have hzl := rdL_len l i
  refine Gx.seq ?_
  refine Gx.region ?_
  refine Gx.val rfl rfl rfl (val_lss rfl rfl rfl) ?_
  refine Gx.done ?_
  refine Gx.thenN ?_
  refine Gx.seq ?_
  refine Gx.dec rfl (fun h2 => ?_) (fun h2 => ?_)
  · refine Gx.skip ?_
    refine Gx.thenN ?_
    refine Gx.seq ?_
    refine Gx.block ?_
    refine Gx.seq ?_
    refine Gx.region ?_
    refine Gx.val rfl rfl rfl (val_move rfl rfl) ?_
    obtain ⟨x3, hx3⟩ := get_of_lt (xs := l) (k := i) (by omega)
    refine Gx.val rfl rfl rfl (val_ixa rfl Try.underlying22 Try.ty30 rfl rfl (j := i) (rfl) (reach_base hs hx3)) ?_
    refine Gx.val rfl rfl rfl (Val.cast (val_loadA rfl Try.ty30 rfl rfl rfl (cells_base hs hx3)) (v' := .agg #[.int .i64 x3.kind, .int .i64 ((x3.txn : Nat) : Int), .int .i64 ((x3.item : Nat) : Int)]) rfl) ?_
    refine Gx.eff rfl rfl rfl (eff_alloc rfl Try.ty30 (vs := [.int .i64 0, .int .i64 0, .int .i64 0]) rfl) ?_
    rintro _ _ ⟨b4, rfl, rfl⟩
    refine Gx.val rfl rfl rfl (val_assign rfl rfl) ?_
    refine Gx.eff0 rfl rfl (eff_store rfl Try.ty30 rfl rfl (us := [.int .i64 x3.kind, .int .i64 ((x3.txn : Nat) : Int), .int .i64 ((x3.item : Nat) : Int)]) rfl rfl rfl (k := 0) rfl (rfl) (vs' := [.int .i64 x3.kind, .int .i64 ((x3.txn : Nat) : Int), .int .i64 ((x3.item : Nat) : Int)]) (rfl) (l' := [Hp.rec_ b4 [.int .i64 x3.kind, .int .i64 ((x3.txn : Nat) : Int), .int .i64 ((x3.item : Nat) : Int)], Hp.own FZ 1 lv (lstL l i), Hp.own FZ 1 zv (rdL l i)]) rfl) ?_
    rintro _ _ rfl
    refine Gx.done ?_
    refine Gx.thenN ?_
    refine Gx.seq ?_
    refine Gx.region ?_
    refine Gx.val rfl rfl rfl (val_assign rfl rfl) ?_
    refine Gx.done ?_
    refine Gx.thenN ?_
    refine Gx.seq ?_
    refine Gx.seq ?_
    have hxo := hok.all _ _ hx3
    have h60 := hok.len
    have hll := lstL_len l i
    refine Gx.region ?_
    refine Gx.val rfl rfl rfl (Val.cast (val_fieldAddr rfl Try.underlying30 rfl Try.ty3 rfl rfl) (v' := ptr b4 0) rfl) ?_
    refine Gx.val rfl rfl rfl (val_load rfl Try.ty3 rfl rfl (cell_rec (k := 0) rfl rfl)) ?_
    refine Gx.val rfl rfl rfl (val_eql rfl rfl rfl) ?_
    refine Gx.done ?_
    refine Gx.thenN ?_
    refine Gx.dec rfl (fun h5 => ?_) (fun h5 => ?_)
    · refine Gx.region ?_
      refine Gx.val rfl rfl rfl (val_move rfl rfl) ?_
      refine Gx.val rfl rfl rfl (Val.cast (val_fieldAddr rfl Try.underlying30 rfl Try.ty3 rfl rfl) (v' := ptr b4 2) rfl) ?_
      refine Gx.val rfl rfl rfl (val_load rfl Try.ty3 rfl rfl (cell_rec (k := 0) rfl rfl)) ?_
      refine Gx.val rfl rfl rfl (val_ixa rfl Try.underlying23 Try.ty3 rfl rfl (j := x3.item) (rfl) (reach_own (k := 1) rfl (lstL_at (l := l) (i := i) (show x3.item < 4 by omega)))) ?_
      refine Gx.val rfl rfl rfl (val_load rfl Try.ty3 rfl rfl (cell_own (i := 0) (k := 1) rfl (lstL_at (l := l) (i := i) (show x3.item < 4 by omega)) rfl)) ?_
      refine Gx.val rfl rfl rfl (val_assign rfl rfl) ?_
      refine Gx.done ?_
      refine Gx.thenN ?_
      refine Gx.seq ?_
      refine Gx.seq ?_
      refine Gx.region ?_
      refine Gx.val rfl rfl rfl (Val.cast (val_fieldAddr rfl Try.underlying30 rfl Try.ty3 rfl rfl) (v' := ptr b4 0) rfl) ?_
      refine Gx.val rfl rfl rfl (val_load rfl Try.ty3 rfl rfl (cell_rec (k := 0) rfl rfl)) ?_
      refine Gx.val rfl rfl rfl (val_eql rfl rfl rfl) ?_
      refine Gx.done ?_
      refine Gx.thenN ?_
      refine Gx.dec rfl (fun h6 => ?_) (fun h6 => ?_)
      · refine Gx.region ?_
        refine Gx.val rfl rfl rfl (val_move rfl rfl) ?_
        refine Gx.val rfl rfl rfl (Val.cast (val_fieldAddr rfl Try.underlying30 rfl Try.ty3 rfl rfl) (v' := ptr b4 2) rfl) ?_
        refine Gx.val rfl rfl rfl (val_load rfl Try.ty3 rfl rfl (cell_rec (k := 0) rfl rfl)) ?_
        refine Gx.val rfl rfl rfl (val_move rfl rfl) ?_
        refine Gx.val rfl rfl rfl (val_ixa rfl Try.underlying23 Try.ty3 rfl rfl (j := x3.item) (rfl) (reach_own (k := 1) rfl (lstL_at (l := l) (i := i) (show x3.item < 4 by omega)))) ?_
        refine Gx.eff0 rfl rfl (eff_storeElA (i : Int) rfl Try.ty3 rfl rfl rfl FZ_one (k := 1) rfl FZ_len (lstL_at (l := l) (i := i) (show x3.item < 4 by omega)) (l' := [Hp.rec_ b4 [.int .i64 x3.kind, .int .i64 ((x3.txn : Nat) : Int), .int .i64 ((x3.item : Nat) : Int)], Hp.own FZ 1 lv (((lstL l i)).set x3.item (i : Int)), Hp.own FZ 1 zv (rdL l i)]) rfl) ?_
        rintro _ _ rfl
        refine Gx.done ?_
        refine Gx.thenN ?_
        refine Gx.region ?_
        refine Gx.val rfl rfl rfl (val_move rfl rfl) ?_
        refine Gx.val rfl rfl rfl (val_move rfl rfl) ?_
        refine Gx.eff rfl rfl rfl (eff_buildSlice rfl (qs := [(0, .int .i64 (oI (lw l x3.item i)))]) rfl rfl (cs := #[.int .i64 (oI (lw l x3.item i))]) (vs := [.int .i64 (oI (lw l x3.item i))]) (E := 3) rfl (fun w => by first | (go_simp; done) | (go_simp; rfl))) ?_
        rintro _ _ ⟨b7, rfl, rfl⟩
        refine Gx.eff rfl rfl rfl (eff_push (r := (oI (lw l x3.item i))) rfl Try.eN FZ_len FZ_one rfl rfl (k := 0) rfl rfl (k' := 2) rfl (by omega) (by omega)) ?_
        rintro v8 _ ⟨hiv8, rfl⟩
        refine Gx.norm (l' := [Hp.rec_ b4 [.int .i64 x3.kind, .int .i64 ((x3.txn : Nat) : Int), .int .i64 ((x3.item : Nat) : Int)], Hp.own FZ 1 lv (((lstL l i)).set x3.item (i : Int)), Hp.own FZ 1 v8 ((rdL l i) ++ [(oI (lw l x3.item i))])]) rfl ?_
        refine Gx.val rfl rfl rfl (val_assign rfl rfl) ?_
        refine Gx.done ?_
        refine Gx.blkN ?_
        refine Gx.thenN ?_
        refine Gx.region ?_
        refine Gx.val rfl rfl rfl (val_add rfl rfl rfl (r := ((i + 1 : Nat) : Int)) (w64 (by omega) (by omega))) ?_
        refine Gx.val rfl rfl rfl (val_move rfl rfl) ?_
        refine Gx.done ?_
        refine Gx.thenN ?_
        refine Gx.drop 0 rfl ?_
        have e1 : lstL l (i + 1) = (lstL l i).set x3.item (i : Int) := lstL_write hx3 (by omega) (by omega)
        have e2 : rdI l i = oI (lw l x3.item i) := by unfold rdI; rw [hx3]; dsimp only; rw [if_pos (by omega)]
        refine Gx.norm (l' := [Hp.own FZ 1 lv (lstL l (i + 1)), Hp.own FZ 1 v8 (rdL l (i + 1))]) (by rw [e1, rdL_succ, e2] <;> rfl) ?_
        exact Gx.round (i + 1, v8) ⟨by first | omega | (dsimp only; omega), hiv8⟩ (by first | omega | (dsimp only; omega)) ((.cons rfl (.cons rfl (.cons rfl (.cons rfl (.cons rfl (.cons rfl .nil))))))) rfl
      · refine Gx.skip ?_
        refine Gx.thenN ?_
        refine Gx.region ?_
        refine Gx.val rfl rfl rfl (val_move rfl rfl) ?_
        refine Gx.val rfl rfl rfl (val_move rfl rfl) ?_
        refine Gx.eff rfl rfl rfl (eff_buildSlice rfl (qs := [(0, .int .i64 (oI (lw l x3.item i)))]) rfl rfl (cs := #[.int .i64 (oI (lw l x3.item i))]) (vs := [.int .i64 (oI (lw l x3.item i))]) (E := 3) rfl (fun w => by first | (go_simp; done) | (go_simp; rfl))) ?_
        rintro _ _ ⟨b9, rfl, rfl⟩
        refine Gx.eff rfl rfl rfl (eff_push (r := (oI (lw l x3.item i))) rfl Try.eN FZ_len FZ_one rfl rfl (k := 0) rfl rfl (k' := 2) rfl (by omega) (by omega)) ?_
        rintro v10 _ ⟨hiv10, rfl⟩
        refine Gx.norm (l' := [Hp.rec_ b4 [.int .i64 x3.kind, .int .i64 ((x3.txn : Nat) : Int), .int .i64 ((x3.item : Nat) : Int)], Hp.own FZ 1 lv (lstL l i), Hp.own FZ 1 v10 ((rdL l i) ++ [(oI (lw l x3.item i))])]) rfl ?_
        refine Gx.val rfl rfl rfl (val_assign rfl rfl) ?_
        refine Gx.done ?_
        refine Gx.blkN ?_
        refine Gx.thenN ?_
        refine Gx.region ?_
        refine Gx.val rfl rfl rfl (val_add rfl rfl rfl (r := ((i + 1 : Nat) : Int)) (w64 (by omega) (by omega))) ?_
        refine Gx.val rfl rfl rfl (val_move rfl rfl) ?_
        refine Gx.done ?_
        refine Gx.thenN ?_
        refine Gx.drop 0 rfl ?_
        have e1 : lstL l (i + 1) = lstL l i := lstL_same hx3 (by omega)
        have e2 : rdI l i = oI (lw l x3.item i) := by unfold rdI; rw [hx3]; dsimp only; rw [if_pos (by omega)]
        refine Gx.norm (l' := [Hp.own FZ 1 lv (lstL l (i + 1)), Hp.own FZ 1 v10 (rdL l (i + 1))]) (by rw [e1, rdL_succ, e2] <;> rfl) ?_
        exact Gx.round (i + 1, v10) ⟨by first | omega | (dsimp only; omega), hiv10⟩ (by first | omega | (dsimp only; omega)) ((.cons rfl (.cons rfl (.cons rfl (.cons rfl (.cons rfl (.cons rfl .nil))))))) rfl
    · refine Gx.skip ?_
      refine Gx.thenN ?_
      refine Gx.seq ?_
      refine Gx.seq ?_
      refine Gx.region ?_
      refine Gx.val rfl rfl rfl (Val.cast (val_fieldAddr rfl Try.underlying30 rfl Try.ty3 rfl rfl) (v' := ptr b4 0) rfl) ?_
      refine Gx.val rfl rfl rfl (val_load rfl Try.ty3 rfl rfl (cell_rec (k := 0) rfl rfl)) ?_
      refine Gx.val rfl rfl rfl (val_eql rfl rfl rfl) ?_
      refine Gx.done ?_
      refine Gx.thenN ?_
      refine Gx.dec rfl (fun h11 => ?_) (fun h11 => ?_)
      · refine Gx.region ?_
        refine Gx.val rfl rfl rfl (val_move rfl rfl) ?_
        refine Gx.val rfl rfl rfl (Val.cast (val_fieldAddr rfl Try.underlying30 rfl Try.ty3 rfl rfl) (v' := ptr b4 2) rfl) ?_
        refine Gx.val rfl rfl rfl (val_load rfl Try.ty3 rfl rfl (cell_rec (k := 0) rfl rfl)) ?_
        refine Gx.val rfl rfl rfl (val_move rfl rfl) ?_
        refine Gx.val rfl rfl rfl (val_ixa rfl Try.underlying23 Try.ty3 rfl rfl (j := x3.item) (rfl) (reach_own (k := 1) rfl (lstL_at (l := l) (i := i) (show x3.item < 4 by omega)))) ?_
        refine Gx.eff0 rfl rfl (eff_storeElA (i : Int) rfl Try.ty3 rfl rfl rfl FZ_one (k := 1) rfl FZ_len (lstL_at (l := l) (i := i) (show x3.item < 4 by omega)) (l' := [Hp.rec_ b4 [.int .i64 x3.kind, .int .i64 ((x3.txn : Nat) : Int), .int .i64 ((x3.item : Nat) : Int)], Hp.own FZ 1 lv (((lstL l i)).set x3.item (i : Int)), Hp.own FZ 1 zv (rdL l i)]) rfl) ?_
        rintro _ _ rfl
        refine Gx.done ?_
        refine Gx.thenN ?_
        refine Gx.region ?_
        refine Gx.val rfl rfl rfl (val_move rfl rfl) ?_
        refine Gx.val rfl rfl rfl (val_move rfl rfl) ?_
        refine Gx.eff rfl rfl rfl (eff_buildSlice rfl (qs := [(0, .int .i64 (-2))]) rfl rfl (cs := #[.int .i64 (-2)]) (vs := [.int .i64 (-2)]) (E := 3) rfl (fun w => by first | (go_simp; done) | (go_simp; rfl))) ?_
        rintro _ _ ⟨b12, rfl, rfl⟩
        refine Gx.eff rfl rfl rfl (eff_push (r := (-2)) rfl Try.eN FZ_len FZ_one rfl rfl (k := 0) rfl rfl (k' := 2) rfl (by omega) (by omega)) ?_
        rintro v13 _ ⟨hiv13, rfl⟩
        refine Gx.norm (l' := [Hp.rec_ b4 [.int .i64 x3.kind, .int .i64 ((x3.txn : Nat) : Int), .int .i64 ((x3.item : Nat) : Int)], Hp.own FZ 1 lv (((lstL l i)).set x3.item (i : Int)), Hp.own FZ 1 v13 ((rdL l i) ++ [(-2)])]) rfl ?_
        refine Gx.val rfl rfl rfl (val_assign rfl rfl) ?_
        refine Gx.done ?_
        refine Gx.blkN ?_
        refine Gx.thenN ?_
        refine Gx.region ?_
        refine Gx.val rfl rfl rfl (val_add rfl rfl rfl (r := ((i + 1 : Nat) : Int)) (w64 (by omega) (by omega))) ?_
        refine Gx.val rfl rfl rfl (val_move rfl rfl) ?_
        refine Gx.done ?_
        refine Gx.thenN ?_
        refine Gx.drop 0 rfl ?_
        have e1 : lstL l (i + 1) = (lstL l i).set x3.item (i : Int) := lstL_write hx3 (by omega) (by omega)
        have e2 : rdI l i = -2 := by unfold rdI; rw [hx3]; dsimp only; rw [if_neg (by omega)]
        refine Gx.norm (l' := [Hp.own FZ 1 lv (lstL l (i + 1)), Hp.own FZ 1 v13 (rdL l (i + 1))]) (by rw [e1, rdL_succ, e2] <;> rfl) ?_
        exact Gx.round (i + 1, v13) ⟨by first | omega | (dsimp only; omega), hiv13⟩ (by first | omega | (dsimp only; omega)) ((.cons rfl (.cons rfl (.cons rfl (.cons rfl (.cons rfl (.cons rfl .nil))))))) rfl
      · refine Gx.skip ?_
        refine Gx.thenN ?_
        refine Gx.region ?_
        refine Gx.val rfl rfl rfl (val_move rfl rfl) ?_
        refine Gx.val rfl rfl rfl (val_move rfl rfl) ?_
        refine Gx.eff rfl rfl rfl (eff_buildSlice rfl (qs := [(0, .int .i64 (-2))]) rfl rfl (cs := #[.int .i64 (-2)]) (vs := [.int .i64 (-2)]) (E := 3) rfl (fun w => by first | (go_simp; done) | (go_simp; rfl))) ?_
        rintro _ _ ⟨b14, rfl, rfl⟩
        refine Gx.eff rfl rfl rfl (eff_push (r := (-2)) rfl Try.eN FZ_len FZ_one rfl rfl (k := 0) rfl rfl (k' := 2) rfl (by omega) (by omega)) ?_
        rintro v15 _ ⟨hiv15, rfl⟩
        refine Gx.norm (l' := [Hp.rec_ b4 [.int .i64 x3.kind, .int .i64 ((x3.txn : Nat) : Int), .int .i64 ((x3.item : Nat) : Int)], Hp.own FZ 1 lv (lstL l i), Hp.own FZ 1 v15 ((rdL l i) ++ [(-2)])]) rfl ?_
        refine Gx.val rfl rfl rfl (val_assign rfl rfl) ?_
        refine Gx.done ?_
        refine Gx.blkN ?_
        refine Gx.thenN ?_
        refine Gx.region ?_
        refine Gx.val rfl rfl rfl (val_add rfl rfl rfl (r := ((i + 1 : Nat) : Int)) (w64 (by omega) (by omega))) ?_
        refine Gx.val rfl rfl rfl (val_move rfl rfl) ?_
        refine Gx.done ?_
        refine Gx.thenN ?_
        refine Gx.drop 0 rfl ?_
        have e1 : lstL l (i + 1) = lstL l i := lstL_same hx3 (by omega)
        have e2 : rdI l i = -2 := by unfold rdI; rw [hx3]; dsimp only; rw [if_neg (by omega)]
        refine Gx.norm (l' := [Hp.own FZ 1 lv (lstL l (i + 1)), Hp.own FZ 1 v15 (rdL l (i + 1))]) (by rw [e1, rdL_succ, e2] <;> rfl) ?_
        exact Gx.round (i + 1, v15) ⟨by first | omega | (dsimp only; omega), hiv15⟩ (by first | omega | (dsimp only; omega)) ((.cons rfl (.cons rfl (.cons rfl (.cons rfl (.cons rfl (.cons rfl .nil))))))) rfl
  · refine Gx.exit ?_
    refine Gx.thenE ?_
    refine Gx.thenE ?_
    refine Gx.blkE ?_
    refine Gx.thenN ?_
    refine Gx.seq ?_
    refine Gx.region ?_
    refine Gx.val rfl rfl rfl (val_move rfl rfl) ?_
    refine Gx.val rfl rfl rfl (val_assign rfl rfl) ?_
    refine Gx.val rfl rfl rfl (val_assign rfl rfl) ?_
    refine Gx.done ?_
    refine Gx.thenN ?_
    refine Gx.ret ?_
    refine Gx.drop 0 rfl ?_
    refine Gx.ret2 Try.results15 rfl rfl ?_
    obtain rfl : i = l.length := by omega
    exact ⟨_, rfl, rfl⟩
  rintro v l' w ⟨rv, rfl, rfl⟩ H
  have := hok.len
  exact ⟨rv, rfl, (H.at_ (k := 0) rfl).sls (by rw [rdL_len]; omega)⟩
end Go.Proofs.Ytcepfpbhfobbeaa
