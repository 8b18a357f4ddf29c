/- Lists put together. The walks. No condition. -/
import Derived.Test.YtfpkfbffpkjgbaaS30
import Derived.Test.YtfpkfbffpkjgbaaW2
namespace Go.Proofs.Ytfpkfbffpkjgbaa
open Go.RowKit
set_option linter.unusedVariables false
set_option linter.unusedSimpArgs false
set_option maxRecDepth 100000

theorem grow_any {W : World} {n : Nat} (hn : n ≤ 65000) : Calls Try.prog 47 #[.slice none 0 0, .int .i64 ((n : Nat) : Int)] W (Ret W fun v l9 => IsS v ∧ l9 = [Hp.own FD 3 v []]) := by
  refine Gx.enter (l := []) Try.func47 rfl Try.ntmps47 rfl (Sat.start W) ?_
  refine Gx.know (m' := [(0, .slice none 0 0), (1, .int .i64 ((n : Nat) : Int))]) (.cons rfl (.cons rfl .nil)) ?_
  refine Gx.seq ?_
  refine Gx.region ?_
  refine Gx.val rfl rfl rfl (val_assign rfl rfl) ?_
  refine Gx.done ?_
  refine Gx.thenN ?_
  refine Gx.seq ?_
  refine Gx.seq ?_
  refine Gx.region ?_
  refine Gx.val rfl rfl rfl (val_move rfl rfl) ?_
  refine Gx.val rfl rfl rfl (val_lss rfl rfl rfl) ?_
  refine Gx.done ?_
  refine Gx.thenN ?_
  refine Gx.decF rfl (by omega) ?_
  refine Gx.skip ?_
  refine Gx.thenN ?_
  refine Gx.seq ?_
  refine Gx.seq ?_
  refine Gx.region ?_
  refine Gx.val rfl rfl rfl (val_move rfl rfl) ?_
  refine Gx.val rfl rfl rfl (val_move rfl rfl) ?_
  refine Gx.val rfl rfl rfl (val_capN rfl Try.underlying25 rfl) ?_
  refine Gx.val rfl rfl rfl (val_move rfl rfl) ?_
  refine Gx.val rfl rfl rfl (val_len rfl Try.underlying25 rfl len_lit) ?_
  refine Gx.val rfl rfl rfl (val_sub rfl rfl rfl (r := 0) (w64 (by omega) (by omega))) ?_
  refine Gx.val rfl rfl rfl (val_sub rfl rfl rfl (r := ((n : Nat) : Int)) (w64 (by omega) (by omega))) ?_
  refine Gx.val rfl rfl rfl (val_assign rfl rfl) ?_
  refine Gx.done ?_
  refine Gx.thenN ?_
  refine Gx.seq ?_
  refine Gx.region ?_
  refine Gx.val rfl rfl rfl (val_move rfl rfl) ?_
  refine Gx.val rfl rfl rfl (val_gtr rfl rfl rfl) ?_
  refine Gx.done ?_
  refine Gx.thenN ?_
  refine Gx.dec rfl (fun h1 => ?_) (fun h1 => ?_)
  · refine Gx.region ?_
    refine Gx.val rfl rfl rfl (val_move rfl rfl) ?_
    refine Gx.val rfl rfl rfl (val_move rfl rfl) ?_
    refine Gx.val rfl rfl rfl (val_capN rfl Try.underlying25 rfl) ?_
    refine Gx.val rfl rfl rfl (val_cutN rfl Try.underlying25 Try.ty59 rfl rfl) ?_
    refine Gx.val rfl rfl rfl (val_move rfl rfl) ?_
    refine Gx.eff rfl rfl rfl (eff_growNil (f := FD) (n := n) rfl Try.eD Try.underlying3 FD_len rfl rfl rfl (⟨0, 0, 0⟩ : Dt) rfl (by omega) (by omega) (by omega)) ?_
    rintro v1 _ ⟨hiv1, rfl⟩
    refine Gx.norm (l' := [Hp.own FD 3 v1 (List.replicate n (⟨0, 0, 0⟩ : Dt))]) rfl ?_
    refine Gx.val rfl rfl rfl (val_move rfl rfl) ?_
    refine Gx.val rfl rfl rfl (val_len rfl Try.underlying25 rfl len_lit) ?_
    refine Gx.val rfl rfl rfl (val_cutToO (up := 0) rfl Try.underlying25 Try.ty59 rfl (n := 0) rfl rfl (rfl) (by omega)) ?_
    refine Gx.val rfl rfl rfl (val_assign rfl rfl) ?_
    refine Gx.done ?_
    refine Gx.thenN ?_
    refine Gx.seq ?_
    refine Gx.region ?_
    refine Gx.val rfl rfl rfl (val_move rfl rfl) ?_
    refine Gx.val rfl rfl rfl (val_assign rfl rfl) ?_
    refine Gx.done ?_
    refine Gx.thenN ?_
    refine Gx.ret ?_
    refine Gx.ownCut (k := 0) 0 0 rfl (Nat.le_refl _) (Nat.zero_le _) rfl ?_
    refine Gx.norm (l' := [Hp.own FD 3 (sCut 3 0 0 v1) []]) rfl ?_
    refine Gx.ret1 Try.results47 rfl ?_
    exact ⟨sCut_isS hiv1, rfl⟩
  refine Gx.skip ?_
  refine Gx.thenN ?_
  refine Gx.seq ?_
  refine Gx.region ?_
  refine Gx.val rfl rfl rfl (val_move rfl rfl) ?_
  refine Gx.val rfl rfl rfl (val_assign rfl rfl) ?_
  refine Gx.done ?_
  refine Gx.thenN ?_
  refine Gx.ret ?_
  refine Gx.ownNil FD 3 ?_
  refine Gx.ret1 Try.results47 rfl ?_
  exact ⟨⟨none, 0, 0, rfl⟩, rfl⟩

/-- a list in memory -/
structure Vd where
  a : Option Addr
  m : Nat
  c : Nat
  xs : List Dt
abbrev FV (x : Vd) : List Value := [.slice x.a x.m x.c]
theorem FV_len (x : Vd) : (FV x).length = 1 := rfl
theorem FV_one (p : Vd) (u : Value) (h : u ∈ FV p) : u.oneCell' = true := by simp [FV] at h; subst h; rfl
def cat (ls : List Vd) : List Dt := ls.flatMap Vd.xs
theorem cat_snoc {ls : List Vd} {k : Nat} {x : Vd} (h : ls[k]? = some x) : cat (ls.take (k + 1)) = cat (ls.take k) ++ x.xs := by rw [take_snoc9 h]; unfold cat; rw [List.flatMap_append]; simp
theorem cat_le (ls : List Vd) (k : Nat) : (cat (ls.take k)).length ≤ (cat ls).length := by
  have : cat ls = cat (ls.take k) ++ cat (ls.drop k) := by unfold cat; rw [← List.flatMap_append, List.take_append_drop]
  rw [this, List.length_append]; omega
theorem concat_any {W : World} {sv : Value} {ls : List Vd} (hs : SlS FV 1 W sv ls) (hls : ∀ x ∈ ls, SlS FD 3 W (.slice x.a x.m x.c) x.xs) (hl : (cat ls).length ≤ 65000) : Calls Try.prog 42 #[sv] W (Ret W fun v l9 => IsS v ∧ l9 = [Hp.own FD 3 v (cat ls)]) := by
  have hm9 := sls_bd hs
  refine Gx.enter (l := []) Try.func42 rfl Try.ntmps42 rfl (Sat.start W) ?_
  refine Gx.know (m' := [(0, sv)]) (.cons rfl .nil) ?_
  refine Gx.seq ?_
  refine Gx.region ?_
  refine Gx.val rfl rfl rfl (val_assign rfl rfl) ?_
  refine Gx.done ?_
  refine Gx.thenN ?_
  refine Gx.seq ?_
  refine Gx.region ?_
  refine Gx.val rfl rfl rfl (val_assign rfl rfl) ?_
  refine Gx.done ?_
  refine Gx.thenN ?_
  refine Gx.seq ?_
  refine Gx.seq ?_
  refine Gx.region ?_
  refine Gx.val rfl rfl rfl (val_move rfl rfl) ?_
  refine Gx.val rfl rfl rfl (val_len rfl Try.underlying70 rfl (len_base hs)) ?_
  refine Gx.val rfl rfl rfl (val_move rfl rfl) ?_
  refine Gx.done ?_
  refine Gx.thenN ?_
  refine Gx.block ?_
  refine Gx.loop (ι := Nat) (fun ξ => (ξ ≤ ls.length)) (fun ξ => [(9, sv), (10, .int .i64 ((ls.length : Nat) : Int)), (11, .int .i64 ((ξ : Nat) : Int)), (3, .int .i64 (((cat (ls.take ξ)).length : Nat) : Int)), (0, sv)]) (fun ξ => []) (fun ξ => ls.length - ξ) 0 (Nat.zero_le _) ((.cons rfl (.cons rfl (.cons rfl (.cons rfl (.cons rfl .nil)))))) rfl ?_
  rintro k hk
  refine Gx.know (m' := [(9, sv), (10, .int .i64 ((ls.length : Nat) : Int)), (11, .int .i64 ((k : Nat) : Int)), (3, .int .i64 (((cat (ls.take k)).length : Nat) : Int)), (0, sv)]) (.cons rfl (.cons rfl (.cons rfl (.cons rfl (.cons rfl .nil))))) (Gx.norm (l' := []) rfl ?_)
  refine Gx.seq ?_
  refine Gx.region ?_
  refine Gx.val rfl rfl rfl (val_lss rfl rfl rfl) ?_
  refine Gx.done ?_
  refine Gx.thenN ?_
  refine Gx.seq ?_
  refine Gx.dec rfl (fun h1 => ?_) (fun h1 => ?_)
  · refine Gx.skip ?_
    refine Gx.thenN ?_
    refine Gx.seq ?_
    refine Gx.block ?_
    refine Gx.seq ?_
    obtain ⟨x, hx⟩ := get_of_lt (xs := ls) (k := k) (by omega)
    have hxs := hls x (List.mem_of_getElem? hx)
    have hxm := sls_bd hxs
    refine Gx.region ?_
    refine Gx.val rfl rfl rfl (val_ixa rfl Try.underlying70 Try.ty25 rfl rfl (j := k) (rfl) (reach_base hs hx)) ?_
    refine Gx.val rfl rfl rfl (val_load rfl Try.ty25 rfl rfl (cell_base (i := 0) hs hx rfl)) ?_
    refine Gx.val rfl rfl rfl (val_assign rfl rfl) ?_
    refine Gx.done ?_
    refine Gx.thenN ?_
    refine Gx.seq ?_
    refine Gx.region ?_
    refine Gx.val rfl rfl rfl (val_move rfl rfl) ?_
    refine Gx.val rfl rfl rfl (val_move rfl rfl) ?_
    refine Gx.val rfl rfl rfl (val_len rfl Try.underlying25 rfl (len_base hxs)) ?_
    refine Gx.val rfl rfl rfl (val_add rfl rfl rfl (r := (((cat (ls.take (k + 1))).length : Nat) : Int)) (w64 (by rw [cat_snoc hx, List.length_append]; omega) (by have := cat_le ls (k + 1); omega))) ?_
    refine Gx.val rfl rfl rfl (val_assign rfl rfl) ?_
    refine Gx.done ?_
    refine Gx.thenN ?_
    refine Gx.seq ?_
    refine Gx.region ?_
    refine Gx.val rfl rfl rfl (val_move rfl rfl) ?_
    refine Gx.val rfl rfl rfl (val_lss rfl rfl rfl) ?_
    refine Gx.done ?_
    refine Gx.thenN ?_
    refine Gx.decF rfl (by omega) ?_
    refine Gx.skip ?_
    refine Gx.blkN ?_
    refine Gx.thenN ?_
    refine Gx.region ?_
    refine Gx.val rfl rfl rfl (val_add rfl rfl rfl (r := ((k + 1 : Nat) : Int)) (w64 (by omega) (by omega))) ?_
    refine Gx.val rfl rfl rfl (val_move rfl rfl) ?_
    refine Gx.done ?_
    refine Gx.thenN ?_
    exact Gx.round (k + 1) (by first | omega | (dsimp only; omega)) (by first | omega | (dsimp only; omega)) ((.cons rfl (.cons rfl (.cons rfl (.cons rfl (.cons rfl .nil)))))) rfl
  refine Gx.exit ?_
  refine Gx.thenE ?_
  refine Gx.thenE ?_
  refine Gx.blkE ?_
  refine Gx.thenN ?_
  refine Gx.seq ?_
  refine Gx.region ?_
  refine Gx.val rfl rfl rfl (val_move rfl rfl) ?_
  refine Gx.eff rfl rfl rfl (eff_callN (vs := [.slice none 0 0, .int .i64 (((cat (ls.take k)).length : Nat) : Int)]) rfl Try.fn47 rfl (fun w H => grow_any (n := (cat (ls.take k)).length) (by have := cat_le ls k; omega))) ?_
  rintro gv _ ⟨_, ⟨higv, rfl⟩, rfl⟩
  refine Gx.norm (l' := [Hp.own FD 3 gv ([])]) rfl ?_
  refine Gx.val rfl rfl rfl (val_assign rfl rfl) ?_
  refine Gx.done ?_
  refine Gx.thenN ?_
  refine Gx.seq ?_
  refine Gx.seq ?_
  refine Gx.region ?_
  refine Gx.val rfl rfl rfl (val_move rfl rfl) ?_
  refine Gx.val rfl rfl rfl (val_len rfl Try.underlying70 rfl (len_base hs)) ?_
  refine Gx.val rfl rfl rfl (val_move rfl rfl) ?_
  refine Gx.done ?_
  refine Gx.thenN ?_
  refine Gx.block ?_
  refine Gx.loop (ι := Nat × Value) (fun ξ => (ξ.1 ≤ ls.length) ∧ (IsS ξ.2)) (fun ξ => [(25, sv), (26, .int .i64 ((ls.length : Nat) : Int)), (27, .int .i64 ((ξ.1 : Nat) : Int)), (6, ξ.2), (0, sv)]) (fun ξ => [Hp.own FD 3 ξ.2 (cat (ls.take ξ.1))]) (fun ξ => ls.length - ξ.1) (0, gv) ⟨Nat.zero_le _, higv⟩ ((.cons rfl (.cons rfl (.cons rfl (.cons rfl (.cons rfl .nil)))))) rfl ?_
  rintro ⟨k, v⟩ ⟨hk, hiv⟩
  dsimp only at hk hiv
  refine Gx.know (m' := [(25, sv), (26, .int .i64 ((ls.length : Nat) : Int)), (27, .int .i64 ((k : Nat) : Int)), (6, v), (0, sv)]) (.cons rfl (.cons rfl (.cons rfl (.cons rfl (.cons rfl .nil))))) (Gx.norm (l' := [Hp.own FD 3 v (cat (ls.take k))]) rfl ?_)
  refine Gx.seq ?_
  refine Gx.region ?_
  refine Gx.val rfl rfl rfl (val_lss rfl rfl rfl) ?_
  refine Gx.done ?_
  refine Gx.thenN ?_
  refine Gx.seq ?_
  refine Gx.dec rfl (fun h2 => ?_) (fun h2 => ?_)
  · refine Gx.skip ?_
    refine Gx.thenN ?_
    refine Gx.seq ?_
    refine Gx.block ?_
    refine Gx.seq ?_
    obtain ⟨x, hx⟩ := get_of_lt (xs := ls) (k := k) (by omega)
    have hxs := hls x (List.mem_of_getElem? hx)
    have hxm := sls_bd hxs
    refine Gx.region ?_
    refine Gx.val rfl rfl rfl (val_ixa rfl Try.underlying70 Try.ty25 rfl rfl (j := k) (rfl) (reach_base hs hx)) ?_
    refine Gx.val rfl rfl rfl (val_load rfl Try.ty25 rfl rfl (cell_base (i := 0) hs hx rfl)) ?_
    refine Gx.val rfl rfl rfl (val_assign rfl rfl) ?_
    refine Gx.done ?_
    refine Gx.thenN ?_
    refine Gx.region ?_
    refine Gx.val rfl rfl rfl (val_move rfl rfl) ?_
    refine Gx.val rfl rfl rfl (val_move rfl rfl) ?_
    refine Gx.eff rfl rfl rfl (eff_pushAll (k := 0) (ys := x.xs) rfl Try.eD FD_len FD_one rfl rfl (fun w H => hxs.below H.below) rfl (by have h9 := cat_le ls (k + 1); rw [cat_snoc hx, List.length_append] at h9; omega) (by have h9 := cat_le ls (k + 1); rw [cat_snoc hx, List.length_append] at h9; omega)) ?_
    rintro v3 _ ⟨hiv3, rfl⟩
    refine Gx.norm (l' := [Hp.own FD 3 v3 ((cat (ls.take k)) ++ x.xs)]) rfl ?_
    refine Gx.val rfl rfl rfl (val_assign rfl rfl) ?_
    refine Gx.done ?_
    refine Gx.blkN ?_
    refine Gx.thenN ?_
    refine Gx.region ?_
    refine Gx.val rfl rfl rfl (val_add rfl rfl rfl (r := ((k + 1 : Nat) : Int)) (w64 (by omega) (by omega))) ?_
    refine Gx.val rfl rfl rfl (val_move rfl rfl) ?_
    refine Gx.done ?_
    refine Gx.thenN ?_
    refine Gx.norm (l' := [Hp.own FD 3 v3 (cat (ls.take (k + 1)))]) (by rw [cat_snoc hx] <;> rfl) ?_
    exact Gx.round (k + 1, v3) ⟨by first | omega | (dsimp only; omega), hiv3⟩ (by first | omega | (dsimp only; omega)) ((.cons rfl (.cons rfl (.cons rfl (.cons rfl (.cons rfl .nil)))))) rfl
  refine Gx.exit ?_
  refine Gx.thenE ?_
  refine Gx.thenE ?_
  refine Gx.blkE ?_
  refine Gx.thenN ?_
  refine Gx.seq ?_
  refine Gx.region ?_
  refine Gx.val rfl rfl rfl (val_move rfl rfl) ?_
  refine Gx.val rfl rfl rfl (val_assign rfl rfl) ?_
  refine Gx.done ?_
  refine Gx.thenN ?_
  refine Gx.ret ?_
  refine Gx.ret1 Try.results42 rfl ?_
  exact ⟨hiv, by rw [show k = ls.length by omega, List.take_length]⟩

end Go.Proofs.Ytfpkfbffpkjgbaa
