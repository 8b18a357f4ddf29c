/- The search for an order. The walk. No condition. -/
import Derived.Test.YtjiefamdpbnngaaLA2
import Derived.Test.YtjiefamdpbnngaaX7
namespace Go.Proofs.Ytjiefamdpbnngaa.Lin
open Go.RowKit
set_option linter.unusedVariables false
set_option linter.unusedSimpArgs false
set_option maxRecDepth 100000

theorem shl1 {i : Nat} (h : i < 32) : IntKind.u32.wrap ((1 : Int) * 2 ^ i) = ((2 ^ i : Nat) : Int) :=
  shl32 (a := 1) (Nat.one_mul _) (Nat.pow_lt_pow_right (by decide : 1 < 2) h)
theorem pow32 {i : Nat} (h : i < 32) : 2 ^ i < 4294967296 := Nat.pow_lt_pow_right (by decide : 1 < 2) h
theorem gd_mk {h : List Op} {l : List Nat} (G : Gd h l) (hok : OkH h) : mk l < 4294967296 := mk_lt fun i hi => by have := G.lt i hi; have := hok.len; omega
def FF (h : List Op) (l : List Nat) (i : Nat) : Option (List Nat) := if mayB h l i = true then FL h (l ++ [i]) else none
theorem fs_none {f : Nat → Option (List Nat)} {k : Nat} (h1 : (List.range k).findSome? f = none) (h2 : f k = none) : (List.range (k + 1)).findSome? f = none := by
  rw [List.range_succ, List.findSome?_append, h1]; simp [h2]
theorem fs_some {f : Nat → Option (List Nat)} {k : Nat} {m : List Nat} (h1 : (List.range k).findSome? f = none) (h2 : f k = some m) : ∀ n, k < n → (List.range n).findSome? f = some m
  | 0, h => by omega
  | n + 1, h => by
    rw [List.range_succ, List.findSome?_append]
    rcases Nat.lt_or_eq_of_le (Nat.le_of_lt_succ h) with h' | rfl
    · rw [fs_some h1 h2 n h']; rfl
    · rw [h1]; simp [h2]

theorem ble7 {j : Nat} (h : j < 4) : Nat.ble (3 + j * 1 + 1) 7 = true := Nat.ble_eq_true_of_le (by omega)
theorem find_any {W : World} {S : Nat} {hv : Value} {h : List Op} : ∀ (n : Nat) {w : World} {R : Hp} (l : List Nat) (lv : Value), h.length - l.length = n → Gd h l → OkH h → IsS lv → SlS FO 6 W hv h →
    Sat W w (Hp.rec_ S [hv, .int .u32 ((mk l : Nat) : Int), lv, .int .i64 (regsL h l 0), .int .i64 (regsL h l 1), .int .i64 (regsL h l 2), .int .i64 (regsL h l 3)] * (Hp.own FN 1 lv l * R)) →
    Calls Try.prog 13 #[ptr S 0] w (Ret W fun v l9 => ∃ lv', IsS lv' ∧ v = .bool (FL h l).isSome ∧ sep l9 = Hp.rec_ S [hv, .int .u32 ((mk ((FL h l).getD l) : Nat) : Int), lv', .int .i64 (regsL h ((FL h l).getD l) 0), .int .i64 (regsL h ((FL h l).getD l) 1), .int .i64 (regsL h ((FL h l).getD l) 2), .int .i64 (regsL h ((FL h l).getD l) 3)] * (Hp.own FN 1 lv' ((FL h l).getD l) * R)) := by
  intro n
  induction n using Nat.strongRecOn with
  | _ n ih =>
  intro w R l lv hn0 G hok hil hs H
  subst hn0
  have h8 := hok.len
  refine Gx.enter (l := [Hp.rec_ S [hv, .int .u32 ((mk l : Nat) : Int), lv, .int .i64 (regsL h l 0), .int .i64 (regsL h l 1), .int .i64 (regsL h l 2), .int .i64 (regsL h l 3)], Hp.own FN 1 lv l, R]) Try.func13 rfl Try.ntmps13 rfl (H.frame2) ?_
  refine Gx.know (m' := [(0, ptr S 0)]) (.cons rfl .nil) ?_
  refine Gx.seq ?_
  refine Gx.region ?_
  refine Gx.val rfl rfl rfl (val_assign rfl rfl) ?_
  refine Gx.done ?_
  refine Gx.thenN ?_
  refine Gx.seq ?_
  refine Gx.seq ?_
  refine Gx.region ?_
  refine Gx.val rfl rfl rfl (val_move rfl rfl) ?_
  refine Gx.val rfl rfl rfl (val_call (vs := [ptr S 0]) rfl Try.fn18 rfl (fun w H => full_any hok (gd_mk G hok) (hs.below H.below) (H.at_ (k := 0) rfl).rec_)) ?_
  refine Gx.done ?_
  refine Gx.thenN ?_
  refine Gx.bool rfl (fun h1 => ?_) (fun h1 => ?_)
  · refine Gx.seq ?_
    refine Gx.region ?_
    refine Gx.val rfl rfl rfl (val_assign rfl rfl) ?_
    refine Gx.done ?_
    refine Gx.thenN ?_
    refine Gx.ret ?_
    refine Gx.thenR ?_
    refine Gx.ret1 Try.results13 rfl ?_
    have hfl : FL h l = some l := by rw [FL_eq G, if_pos (by simp_all)]
    rw [hfl]
    exact ⟨_, hil, rfl, sep2 _ _ _⟩
  · refine Gx.skip ?_
    refine Gx.thenN ?_
    refine Gx.seq ?_
    refine Gx.seq ?_
    refine Gx.region ?_
    refine Gx.val rfl rfl rfl (val_move rfl rfl) ?_
    refine Gx.val rfl rfl rfl (val_nilCheck rfl rfl) ?_
    refine Gx.val rfl rfl rfl (Val.cast (val_fieldAddr rfl Try.underlying59 rfl Try.ty26 rfl rfl) (v' := ptr S 0) rfl) ?_
    refine Gx.val rfl rfl rfl (val_load rfl Try.ty26 rfl rfl (cell_rec (k := 0) rfl rfl)) ?_
    refine Gx.val rfl rfl rfl (val_len rfl Try.underlying26 rfl (len_base hs)) ?_
    refine Gx.val rfl rfl rfl (val_move rfl rfl) ?_
    refine Gx.done ?_
    refine Gx.thenN ?_
    refine Gx.block ?_
    have hnf : ¬ fullB h l = true := by simp_all
    refine Gx.loop (ι := Nat × Value) (fun ξ => (ξ.1 ≤ h.length) ∧ ((List.range ξ.1).findSome? (FF h l) = none) ∧ (IsS ξ.2)) (fun ξ => [(0, ptr S 0), (11, hv), (12, .int .i64 ((h.length : Nat) : Int)), (13, .int .i64 ((ξ.1 : Nat) : Int))]) (fun ξ => [Hp.rec_ S [hv, .int .u32 ((mk l : Nat) : Int), ξ.2, .int .i64 (regsL h l 0), .int .i64 (regsL h l 1), .int .i64 (regsL h l 2), .int .i64 (regsL h l 3)], Hp.own FN 1 ξ.2 l, R]) (fun ξ => h.length - ξ.1) (0, lv) ⟨by first | omega | (dsimp only; omega), rfl, hil⟩ ((.cons rfl (.cons rfl (.cons rfl (.cons rfl .nil))))) rfl ?_
    rintro ⟨k, lw⟩ ⟨hk, hn, hiw⟩
    dsimp only at hk hn hiw
    refine Gx.know (m' := [(0, ptr S 0), (11, hv), (12, .int .i64 ((h.length : Nat) : Int)), (13, .int .i64 ((k : Nat) : Int))]) (.cons rfl (.cons rfl (.cons rfl (.cons rfl .nil)))) (Gx.norm (l' := [Hp.rec_ S [hv, .int .u32 ((mk l : Nat) : Int), lw, .int .i64 (regsL h l 0), .int .i64 (regsL h l 1), .int .i64 (regsL h l 2), .int .i64 (regsL h l 3)], Hp.own FN 1 lw l, R]) rfl ?_)
    refine Gx.seq ?_
    refine Gx.region ?_
    refine Gx.val rfl rfl rfl (val_lss rfl rfl rfl) ?_
    refine Gx.done ?_
    refine Gx.thenN ?_
    refine Gx.seq ?_
    refine Gx.dec rfl (fun h2 => ?_) (fun h2 => ?_)
    · refine Gx.skip ?_
      refine Gx.thenN ?_
      refine Gx.seq ?_
      refine Gx.block ?_
      refine Gx.seq ?_
      have h8 := hok.len
      refine Gx.region ?_
      refine Gx.val rfl rfl rfl (val_move rfl rfl) ?_
      obtain ⟨x3, hx3⟩ := get_of_lt (xs := h) (k := k) (by first | omega | (simp; omega))
      refine Gx.val rfl rfl rfl (val_ixa rfl Try.underlying26 Try.ty33 rfl rfl (j := k) (rfl) (reach_base hs hx3)) ?_
      refine Gx.val rfl rfl rfl (Val.cast (val_loadA rfl Try.ty33 rfl rfl rfl (cells_base hs hx3)) (v' := .agg #[.int .i64 x3.who, .int .i64 x3.reg, .bool x3.write, .int .i64 x3.val, .int .i64 x3.fr, .int .i64 x3.to]) rfl) ?_
      refine Gx.eff rfl rfl rfl (eff_alloc rfl Try.ty33 (vs := [.int .i64 0, .int .i64 0, .bool false, .int .i64 0, .int .i64 0, .int .i64 0]) rfl) ?_
      rintro _ _ ⟨b4, rfl, rfl⟩
      refine Gx.val rfl rfl rfl (val_assign rfl rfl) ?_
      refine Gx.eff0 rfl rfl (eff_store rfl Try.ty33 rfl rfl (us := [.int .i64 x3.who, .int .i64 x3.reg, .bool x3.write, .int .i64 x3.val, .int .i64 x3.fr, .int .i64 x3.to]) rfl rfl rfl (k := 0) rfl (rfl) (vs' := [.int .i64 x3.who, .int .i64 x3.reg, .bool x3.write, .int .i64 x3.val, .int .i64 x3.fr, .int .i64 x3.to]) (rfl) (l' := [Hp.rec_ b4 [.int .i64 x3.who, .int .i64 x3.reg, .bool x3.write, .int .i64 x3.val, .int .i64 x3.fr, .int .i64 x3.to], Hp.rec_ S [hv, .int .u32 ((mk l : Nat) : Int), lw, .int .i64 (regsL h l 0), .int .i64 (regsL h l 1), .int .i64 (regsL h l 2), .int .i64 (regsL h l 3)], Hp.own FN 1 lw l, R]) rfl) ?_
      rintro _ _ rfl
      refine Gx.done ?_
      refine Gx.thenN ?_
      refine Gx.seq ?_
      refine Gx.seq ?_
      refine Gx.region ?_
      refine Gx.val rfl rfl rfl (val_move rfl rfl) ?_
      refine Gx.val rfl rfl rfl (val_move rfl rfl) ?_
      refine Gx.val rfl rfl rfl (val_call (vs := [ptr S 0, .int .i64 ((k : Nat) : Int)]) rfl Try.fn19 rfl (fun w H => may_any k (by omega) hok (gd_mk G hok) (hs.below H.below) (H.at_ (k := 1) rfl).rec_)) ?_
      refine Gx.val rfl rfl rfl (val_not rfl rfl) ?_
      refine Gx.done ?_
      refine Gx.thenN ?_
      refine Gx.bool rfl (fun h5 => ?_) (fun h5 => ?_)
      · refine Gx.exit ?_
        refine Gx.thenE ?_
        refine Gx.blkE ?_
        refine Gx.thenN ?_
        refine Gx.region ?_
        refine Gx.val rfl rfl rfl (val_add rfl rfl rfl (r := ((k + 1 : Nat) : Int)) (w64 (by omega) (by omega))) ?_
        refine Gx.val rfl rfl rfl (val_move rfl rfl) ?_
        refine Gx.done ?_
        refine Gx.thenN ?_
        refine Gx.drop 0 rfl ?_
        exact Gx.round (k + 1, lw) ⟨by first | omega | (dsimp only; omega), fs_none hn (by unfold FF; exact if_neg (by simp_all)), hiw⟩ (by first | omega | (dsimp only; omega)) ((.cons rfl (.cons rfl (.cons rfl (.cons rfl .nil))))) rfl
      · refine Gx.skip ?_
        refine Gx.thenN ?_
        refine Gx.seq ?_
        have hkl := (mayB_lt (by simp_all : mayB h l k = true)).2
        have G2 := G.snoc (show k < h.length by omega) hkl
        have hgl := G.len
        have hgl3 : (l ++ [k]).length = l.length + 1 := by simp
        have hgl2 := G2.len
        have hmay : mayB h l k = true := by simp_all
        refine Gx.region ?_
        refine Gx.val rfl rfl rfl (val_move rfl rfl) ?_
        refine Gx.val rfl rfl rfl (val_nilCheck rfl rfl) ?_
        refine Gx.val rfl rfl rfl (Val.cast (val_fieldAddr rfl Try.underlying59 rfl Try.ty57 rfl rfl) (v' := ptr S 3) rfl) ?_
        refine Gx.val rfl rfl rfl (Val.cast (val_loadA rfl Try.ty57 rfl rfl (us := [.int .i64 (regsL h l 0), .int .i64 (regsL h l 1), .int .i64 (regsL h l 2), .int .i64 (regsL h l 3)]) rfl (cells_rec_at (k := 1) (i := 3) (n := 4) rfl rfl)) (v' := .agg #[.int .i64 (regsL h l 0), .int .i64 (regsL h l 1), .int .i64 (regsL h l 2), .int .i64 (regsL h l 3)]) rfl) ?_
        refine Gx.eff rfl rfl rfl (eff_alloc rfl Try.ty57 (vs := [.int .i64 0, .int .i64 0, .int .i64 0, .int .i64 0]) rfl) ?_
        rintro _ _ ⟨b6, rfl, rfl⟩
        refine Gx.eff0 rfl rfl (eff_store rfl Try.ty57 rfl rfl (us := [.int .i64 (regsL h l 0), .int .i64 (regsL h l 1), .int .i64 (regsL h l 2), .int .i64 (regsL h l 3)]) rfl rfl rfl (k := 0) rfl (rfl) (vs' := [.int .i64 (regsL h l 0), .int .i64 (regsL h l 1), .int .i64 (regsL h l 2), .int .i64 (regsL h l 3)]) (rfl) (l' := [Hp.rec_ b6 [.int .i64 (regsL h l 0), .int .i64 (regsL h l 1), .int .i64 (regsL h l 2), .int .i64 (regsL h l 3)], Hp.rec_ b4 [.int .i64 x3.who, .int .i64 x3.reg, .bool x3.write, .int .i64 x3.val, .int .i64 x3.fr, .int .i64 x3.to], Hp.rec_ S [hv, .int .u32 ((mk l : Nat) : Int), lw, .int .i64 (regsL h l 0), .int .i64 (regsL h l 1), .int .i64 (regsL h l 2), .int .i64 (regsL h l 3)], Hp.own FN 1 lw l, R]) rfl) ?_
        rintro _ _ rfl
        refine Gx.done ?_
        refine Gx.thenN ?_
        refine Gx.seq ?_
        refine Gx.regionO (fun j => false) 9 [0, 1, 2, 3, 4, 5, 6, 7, 8] (fun _ => [Hp.rec_ b6 [.int .i64 (regsL h l 0), .int .i64 (regsL h l 1), .int .i64 (regsL h l 2), .int .i64 (regsL h l 3)], Hp.rec_ b4 [.int .i64 x3.who, .int .i64 x3.reg, .bool x3.write, .int .i64 x3.val, .int .i64 x3.fr, .int .i64 x3.to], Hp.rec_ S [hv, .int .u32 ((mk l : Nat) : Int), lw, .int .i64 (regsL h l 0), .int .i64 (regsL h l 1), .int .i64 (regsL h l 2), .int .i64 (regsL h l 3)], Hp.own FN 1 lw l, R]) Try.mixed (by kernel_rfl) rfl ?_
        refine Gw.val rfl rfl rfl rfl rfl (fun us => val_move rfl rfl) ?_
        refine Gw.val rfl rfl rfl rfl rfl (fun us => val_nilCheck rfl rfl) ?_
        refine Gw.val rfl rfl rfl rfl rfl (fun us => Val.cast (val_fieldAddr rfl Try.underlying59 rfl Try.ty52 rfl rfl) (v' := ptr S 1) rfl) ?_
        refine Gw.val0 rfl rfl rfl (by kernel_rfl) rfl rfl (val_load rfl Try.ty52 rfl rfl (cell_rec (k := 2) rfl rfl)) ?_
        refine Gw.val rfl rfl rfl rfl rfl (fun us => val_move rfl rfl) ?_
        refine Gw.val rfl rfl rfl rfl rfl (fun us => val_shl (b := k) rfl rfl rfl rfl (by show k ≤ 32; omega) (shl1 (by omega))) ?_
        refine Gw.val rfl rfl rfl rfl rfl (fun us => val_or rfl rfl rfl ((or32 (gd_mk G hok) (pow32 (by omega))).trans (congrArg Nat.cast (mk_snoc l k).symm))) ?_
        refine Gw.val rfl rfl rfl rfl rfl (fun us => val_nilCheck rfl rfl) ?_
        refine Gw.val rfl rfl rfl rfl rfl (fun us => Val.cast (val_fieldAddr rfl Try.underlying59 rfl Try.ty52 rfl rfl) (v' := ptr S 1) rfl) ?_
        refine Gw.done ?_
        refine Gx.norm (l' := [Hp.rec_ b6 [.int .i64 (regsL h l 0), .int .i64 (regsL h l 1), .int .i64 (regsL h l 2), .int .i64 (regsL h l 3)], Hp.rec_ b4 [.int .i64 x3.who, .int .i64 x3.reg, .bool x3.write, .int .i64 x3.val, .int .i64 x3.fr, .int .i64 x3.to], Hp.rec_ S [hv, .int .u32 ((mk l : Nat) : Int), lw, .int .i64 (regsL h l 0), .int .i64 (regsL h l 1), .int .i64 (regsL h l 2), .int .i64 (regsL h l 3)], Hp.own FN 1 lw l, R]) rfl ?_
        refine Gx.eff0 rfl rfl (eff_store rfl Try.ty52 rfl rfl (us := [.int .u32 ((mk (l ++ [k]) : Nat) : Int)]) rfl rfl rfl (k := 2) rfl (rfl) (vs' := [hv, .int .u32 ((mk (l ++ [k]) : Nat) : Int), lw, .int .i64 (regsL h l 0), .int .i64 (regsL h l 1), .int .i64 (regsL h l 2), .int .i64 (regsL h l 3)]) (rfl) (l' := [Hp.rec_ b6 [.int .i64 (regsL h l 0), .int .i64 (regsL h l 1), .int .i64 (regsL h l 2), .int .i64 (regsL h l 3)], Hp.rec_ b4 [.int .i64 x3.who, .int .i64 x3.reg, .bool x3.write, .int .i64 x3.val, .int .i64 x3.fr, .int .i64 x3.to], Hp.rec_ S [hv, .int .u32 ((mk (l ++ [k]) : Nat) : Int), lw, .int .i64 (regsL h l 0), .int .i64 (regsL h l 1), .int .i64 (regsL h l 2), .int .i64 (regsL h l 3)], Hp.own FN 1 lw l, R]) rfl) ?_
        rintro _ _ rfl
        refine Gx.done ?_
        refine Gx.thenN ?_
        refine Gx.seq ?_
        refine Gx.region ?_
        refine Gx.val rfl rfl rfl (val_move rfl rfl) ?_
        refine Gx.val rfl rfl rfl (val_move rfl rfl) ?_
        refine Gx.val rfl rfl rfl (val_nilCheck rfl rfl) ?_
        refine Gx.val rfl rfl rfl (Val.cast (val_fieldAddr rfl Try.underlying59 rfl Try.ty38 rfl rfl) (v' := ptr S 2) rfl) ?_
        refine Gx.val rfl rfl rfl (val_load rfl Try.ty38 rfl rfl (cell_rec (k := 2) rfl rfl)) ?_
        refine Gx.val rfl rfl rfl (val_move rfl rfl) ?_
        refine Gx.eff rfl rfl rfl (eff_buildSlice rfl (qs := [(0, .int .i64 ((k : Nat) : Int))]) rfl rfl (cs := #[.int .i64 ((k : Nat) : Int)]) (vs := [.int .i64 ((k : Nat) : Int)]) (E := 3) rfl (fun w => by first | (go_simp; done) | (go_simp; rfl))) ?_
        rintro _ _ ⟨b7, rfl, rfl⟩
        refine Gx.eff rfl rfl rfl (eff_push (r := k) rfl Try.eN FN_len FN_one rfl rfl (k := 0) rfl rfl (k' := 3) rfl (by omega) (by omega)) ?_
        rintro v8 _ ⟨hiv8, rfl⟩
        refine Gx.norm (l' := [Hp.rec_ b6 [.int .i64 (regsL h l 0), .int .i64 (regsL h l 1), .int .i64 (regsL h l 2), .int .i64 (regsL h l 3)], Hp.rec_ b4 [.int .i64 x3.who, .int .i64 x3.reg, .bool x3.write, .int .i64 x3.val, .int .i64 x3.fr, .int .i64 x3.to], Hp.rec_ S [hv, .int .u32 ((mk (l ++ [k]) : Nat) : Int), lw, .int .i64 (regsL h l 0), .int .i64 (regsL h l 1), .int .i64 (regsL h l 2), .int .i64 (regsL h l 3)], Hp.own FN 1 v8 (l ++ [k]), R]) rfl ?_
        refine Gx.val rfl rfl rfl (val_nilCheck rfl rfl) ?_
        refine Gx.val rfl rfl rfl (Val.cast (val_fieldAddr rfl Try.underlying59 rfl Try.ty38 rfl rfl) (v' := ptr S 2) rfl) ?_
        refine Gx.eff0 rfl rfl (eff_store rfl Try.ty38 rfl rfl (us := [v8]) hiv8.cellsL rfl hiv8.all (k := 2) rfl (rfl) (vs' := [hv, .int .u32 ((mk (l ++ [k]) : Nat) : Int), v8, .int .i64 (regsL h l 0), .int .i64 (regsL h l 1), .int .i64 (regsL h l 2), .int .i64 (regsL h l 3)]) (rfl) (l' := [Hp.rec_ b6 [.int .i64 (regsL h l 0), .int .i64 (regsL h l 1), .int .i64 (regsL h l 2), .int .i64 (regsL h l 3)], Hp.rec_ b4 [.int .i64 x3.who, .int .i64 x3.reg, .bool x3.write, .int .i64 x3.val, .int .i64 x3.fr, .int .i64 x3.to], Hp.rec_ S [hv, .int .u32 ((mk (l ++ [k]) : Nat) : Int), v8, .int .i64 (regsL h l 0), .int .i64 (regsL h l 1), .int .i64 (regsL h l 2), .int .i64 (regsL h l 3)], Hp.own FN 1 v8 (l ++ [k]), R]) rfl) ?_
        rintro _ _ rfl
        refine Gx.done ?_
        refine Gx.thenN ?_
        refine Gx.seq ?_
        refine Gx.seq ?_
        refine Gx.region ?_
        refine Gx.val rfl rfl rfl (Val.cast (val_fieldAddr rfl Try.underlying33 rfl Try.ty4 rfl rfl) (v' := ptr b4 2) rfl) ?_
        refine Gx.val rfl rfl rfl (val_load rfl Try.ty4 rfl rfl (cell_rec (k := 1) rfl rfl)) ?_
        refine Gx.done ?_
        refine Gx.thenN ?_
        refine Gx.bool rfl (fun h9 => ?_) (fun h9 => ?_)
        · refine Gx.regionO (fun j => false) 8 [0, 1, 2, 3, 4, 5, 6, 7] (fun _ => [Hp.rec_ b6 [.int .i64 (regsL h l 0), .int .i64 (regsL h l 1), .int .i64 (regsL h l 2), .int .i64 (regsL h l 3)], Hp.rec_ b4 [.int .i64 x3.who, .int .i64 x3.reg, .bool x3.write, .int .i64 x3.val, .int .i64 x3.fr, .int .i64 x3.to], Hp.rec_ S [hv, .int .u32 ((mk (l ++ [k]) : Nat) : Int), v8, .int .i64 (regsL h l 0), .int .i64 (regsL h l 1), .int .i64 (regsL h l 2), .int .i64 (regsL h l 3)], Hp.own FN 1 v8 (l ++ [k]), R]) Try.mixed (by kernel_rfl) rfl ?_
          have hreg := hok.reg _ _ hx3
          refine Gw.val rfl rfl rfl rfl rfl (fun us => val_move rfl rfl) ?_
          refine Gw.val rfl rfl rfl rfl rfl (fun us => Val.cast (val_fieldAddr rfl Try.underlying33 rfl Try.ty3 rfl rfl) (v' := ptr b4 1) rfl) ?_
          refine Gw.val0 rfl rfl rfl (by kernel_rfl) rfl rfl (val_load rfl Try.ty3 rfl rfl (cell_rec (k := 1) rfl rfl)) ?_
          refine Gw.val rfl rfl rfl rfl rfl (fun us => Val.cast (val_fieldAddr rfl Try.underlying33 rfl Try.ty2 rfl rfl) (v' := ptr b4 3) rfl) ?_
          refine Gw.val0 rfl rfl rfl (by kernel_rfl) rfl rfl (val_load rfl Try.ty2 rfl rfl (cell_rec (k := 1) rfl rfl)) ?_
          refine Gw.val rfl rfl rfl rfl rfl (fun us => val_nilCheck rfl rfl) ?_
          refine Gw.val rfl rfl rfl rfl rfl (fun us => Val.cast (val_fieldAddr rfl Try.underlying59 rfl Try.ty57 rfl rfl) (v' := ptr S 3) rfl) ?_
          refine Gw.val rfl rfl rfl rfl rfl (fun us => Val.cast (val_ixaA rfl Try.underlying57 Try.ty2 rfl rfl (j := x3.reg.toNat) (by omega) (by omega)) (v' := ptr S (3 + x3.reg.toNat * 1)) rfl) ?_
          refine Gw.done ?_
          refine Gx.norm (l' := [Hp.rec_ b6 [.int .i64 (regsL h l 0), .int .i64 (regsL h l 1), .int .i64 (regsL h l 2), .int .i64 (regsL h l 3)], Hp.rec_ b4 [.int .i64 x3.who, .int .i64 x3.reg, .bool x3.write, .int .i64 x3.val, .int .i64 x3.fr, .int .i64 x3.to], Hp.rec_ S [hv, .int .u32 ((mk (l ++ [k]) : Nat) : Int), v8, .int .i64 (regsL h l 0), .int .i64 (regsL h l 1), .int .i64 (regsL h l 2), .int .i64 (regsL h l 3)], Hp.own FN 1 v8 (l ++ [k]), R]) rfl ?_
          refine Gx.eff0 rfl rfl (eff_store rfl Try.ty2 rfl rfl (us := [.int .i64 x3.val]) rfl rfl rfl (k := 2) rfl (ble7 (j := x3.reg.toNat) (by omega)) (vs' := [hv, .int .u32 ((mk (l ++ [k]) : Nat) : Int), v8, .int .i64 (updR (regsL h l) x3.reg.toNat x3.val 0), .int .i64 (updR (regsL h l) x3.reg.toNat x3.val 1), .int .i64 (updR (regsL h l) x3.reg.toNat x3.val 2), .int .i64 (updR (regsL h l) x3.reg.toNat x3.val 3)]) (by rcases (show x3.reg.toNat = 0 ∨ x3.reg.toNat = 1 ∨ x3.reg.toNat = 2 ∨ x3.reg.toNat = 3 by omega) with e | e | e | e <;> rw [e] <;> rfl) (l' := [Hp.rec_ b6 [.int .i64 (regsL h l 0), .int .i64 (regsL h l 1), .int .i64 (regsL h l 2), .int .i64 (regsL h l 3)], Hp.rec_ b4 [.int .i64 x3.who, .int .i64 x3.reg, .bool x3.write, .int .i64 x3.val, .int .i64 x3.fr, .int .i64 x3.to], Hp.rec_ S [hv, .int .u32 ((mk (l ++ [k]) : Nat) : Int), v8, .int .i64 (updR (regsL h l) x3.reg.toNat x3.val 0), .int .i64 (updR (regsL h l) x3.reg.toNat x3.val 1), .int .i64 (updR (regsL h l) x3.reg.toNat x3.val 2), .int .i64 (updR (regsL h l) x3.reg.toNat x3.val 3)], Hp.own FN 1 v8 (l ++ [k]), R]) rfl) ?_
          rintro _ _ rfl
          refine Gx.done ?_
          refine Gx.thenN ?_
          refine Gx.seq ?_
          refine Gx.seq ?_
          have hR : regsL h (l ++ [k]) = updR (regsL h l) x3.reg.toNat x3.val := by rw [regsL_snoc hx3]; unfold stepR; simp_all
          refine Gx.norm (l' := [Hp.rec_ b6 [.int .i64 (regsL h l 0), .int .i64 (regsL h l 1), .int .i64 (regsL h l 2), .int .i64 (regsL h l 3)], Hp.rec_ b4 [.int .i64 x3.who, .int .i64 x3.reg, .bool x3.write, .int .i64 x3.val, .int .i64 x3.fr, .int .i64 x3.to], Hp.rec_ S [hv, .int .u32 ((mk (l ++ [k]) : Nat) : Int), v8, .int .i64 (regsL h (l ++ [k]) 0), .int .i64 (regsL h (l ++ [k]) 1), .int .i64 (regsL h (l ++ [k]) 2), .int .i64 (regsL h (l ++ [k]) 3)], Hp.own FN 1 v8 (l ++ [k]), R]) (by rw [hR] <;> rfl) ?_
          refine Gx.region ?_
          refine Gx.val rfl rfl rfl (val_move rfl rfl) ?_
          refine Gx.eff rfl rfl rfl (eff_call (vs := [ptr S 0]) rfl Try.fn13 rfl (fun w H => (ih (h.length - (l ++ [k]).length) (by omega) (l ++ [k]) v8 rfl G2 hok hiv8 hs (H.at2 (k := 2) (k' := 2) rfl rfl)))) ?_
          rintro _ l11 ⟨lv10, hilv10, rfl, hl11⟩
          refine Gx.sepEq (l' := [Hp.rec_ S [hv, .int .u32 ((mk ((FL h (l ++ [k])).getD (l ++ [k])) : Nat) : Int), lv10, .int .i64 (regsL h ((FL h (l ++ [k])).getD (l ++ [k])) 0), .int .i64 (regsL h ((FL h (l ++ [k])).getD (l ++ [k])) 1), .int .i64 (regsL h ((FL h (l ++ [k])).getD (l ++ [k])) 2), .int .i64 (regsL h ((FL h (l ++ [k])).getD (l ++ [k])) 3)], Hp.own FN 1 lv10 ((FL h (l ++ [k])).getD (l ++ [k])), Hp.rec_ b6 [.int .i64 (regsL h l 0), .int .i64 (regsL h l 1), .int .i64 (regsL h l 2), .int .i64 (regsL h l 3)], Hp.rec_ b4 [.int .i64 x3.who, .int .i64 x3.reg, .bool x3.write, .int .i64 x3.val, .int .i64 x3.fr, .int .i64 x3.to], R]) hl11 ?_
          refine Gx.done ?_
          refine Gx.thenN ?_
          refine Gx.bool rfl (fun h12 => ?_) (fun h12 => ?_)
          · refine Gx.seq ?_
            refine Gx.region ?_
            refine Gx.val rfl rfl rfl (val_assign rfl rfl) ?_
            refine Gx.done ?_
            refine Gx.thenN ?_
            refine Gx.ret ?_
            refine Gx.thenR ?_
            refine Gx.blkR ?_
            refine Gx.thenR ?_
            refine Gx.thenR ?_
            refine Gx.blkR ?_
            refine Gx.thenR ?_
            refine Gx.drop 3 rfl ?_
            refine Gx.drop 2 rfl ?_
            refine Gx.ret1 Try.results13 rfl ?_
            obtain ⟨m, hm⟩ := Option.isSome_iff_exists.1 (by assumption : (FL h (l ++ [k])).isSome = true)
            have hfl : FL h l = some m := by rw [FL_eq G, if_neg hnf]; exact fs_some hn (show FF h l k = some m by unfold FF; rw [if_pos (by simp_all)]; exact hm) _ (by omega)
            rw [hfl, hm]
            exact ⟨_, hilv10, rfl, sep2 _ _ _⟩
          · have hfn : FL h (l ++ [k]) = none := by simpa using h12
            have hgd : ((FL h (l ++ [k])).getD (l ++ [k])) = l ++ [k] := by rw [hfn]; rfl
            refine Gx.norm (l' := [Hp.rec_ S [hv, .int .u32 ((mk (l ++ [k]) : Nat) : Int), lv10, .int .i64 (regsL h (l ++ [k]) 0), .int .i64 (regsL h (l ++ [k]) 1), .int .i64 (regsL h (l ++ [k]) 2), .int .i64 (regsL h (l ++ [k]) 3)], Hp.own FN 1 lv10 (l ++ [k]), Hp.rec_ b6 [.int .i64 (regsL h l 0), .int .i64 (regsL h l 1), .int .i64 (regsL h l 2), .int .i64 (regsL h l 3)], Hp.rec_ b4 [.int .i64 x3.who, .int .i64 x3.reg, .bool x3.write, .int .i64 x3.val, .int .i64 x3.fr, .int .i64 x3.to], R]) (by rw [hgd] <;> rfl) ?_
            refine Gx.skip ?_
            refine Gx.thenN ?_
            refine Gx.seq ?_
            refine Gx.regionO (fun j => false) 9 [0, 1, 2, 3, 4, 5, 6, 7, 8] (fun _ => [Hp.rec_ S [hv, .int .u32 ((mk (l ++ [k]) : Nat) : Int), lv10, .int .i64 (regsL h (l ++ [k]) 0), .int .i64 (regsL h (l ++ [k]) 1), .int .i64 (regsL h (l ++ [k]) 2), .int .i64 (regsL h (l ++ [k]) 3)], Hp.own FN 1 lv10 (l ++ [k]), Hp.rec_ b6 [.int .i64 (regsL h l 0), .int .i64 (regsL h l 1), .int .i64 (regsL h l 2), .int .i64 (regsL h l 3)], Hp.rec_ b4 [.int .i64 x3.who, .int .i64 x3.reg, .bool x3.write, .int .i64 x3.val, .int .i64 x3.fr, .int .i64 x3.to], R]) Try.mixed (by kernel_rfl) rfl ?_
            refine Gw.val rfl rfl rfl rfl rfl (fun us => val_move rfl rfl) ?_
            refine Gw.val rfl rfl rfl rfl rfl (fun us => val_nilCheck rfl rfl) ?_
            refine Gw.val rfl rfl rfl rfl rfl (fun us => Val.cast (val_fieldAddr rfl Try.underlying59 rfl Try.ty52 rfl rfl) (v' := ptr S 1) rfl) ?_
            refine Gw.val0 rfl rfl rfl (by kernel_rfl) rfl rfl (val_load rfl Try.ty52 rfl rfl (cell_rec (k := 0) rfl rfl)) ?_
            refine Gw.val rfl rfl rfl rfl rfl (fun us => val_move rfl rfl) ?_
            refine Gw.val rfl rfl rfl rfl rfl (fun us => val_shl (b := k) rfl rfl rfl rfl (by show k ≤ 32; omega) (shl1 (by omega))) ?_
            refine Gw.val rfl rfl rfl rfl rfl (fun us => val_andNot rfl rfl rfl (andNot32 (gd_mk G2 hok) (pow32 (by omega)) (gd_mk G hok) (mk_not hkl))) ?_
            refine Gw.val rfl rfl rfl rfl rfl (fun us => val_nilCheck rfl rfl) ?_
            refine Gw.val rfl rfl rfl rfl rfl (fun us => Val.cast (val_fieldAddr rfl Try.underlying59 rfl Try.ty52 rfl rfl) (v' := ptr S 1) rfl) ?_
            refine Gw.done ?_
            refine Gx.norm (l' := [Hp.rec_ S [hv, .int .u32 ((mk (l ++ [k]) : Nat) : Int), lv10, .int .i64 (regsL h (l ++ [k]) 0), .int .i64 (regsL h (l ++ [k]) 1), .int .i64 (regsL h (l ++ [k]) 2), .int .i64 (regsL h (l ++ [k]) 3)], Hp.own FN 1 lv10 (l ++ [k]), Hp.rec_ b6 [.int .i64 (regsL h l 0), .int .i64 (regsL h l 1), .int .i64 (regsL h l 2), .int .i64 (regsL h l 3)], Hp.rec_ b4 [.int .i64 x3.who, .int .i64 x3.reg, .bool x3.write, .int .i64 x3.val, .int .i64 x3.fr, .int .i64 x3.to], R]) rfl ?_
            refine Gx.eff0 rfl rfl (eff_store rfl Try.ty52 rfl rfl (us := [.int .u32 ((mk l : Nat) : Int)]) rfl rfl rfl (k := 0) rfl (rfl) (vs' := [hv, .int .u32 ((mk l : Nat) : Int), lv10, .int .i64 (regsL h (l ++ [k]) 0), .int .i64 (regsL h (l ++ [k]) 1), .int .i64 (regsL h (l ++ [k]) 2), .int .i64 (regsL h (l ++ [k]) 3)]) (rfl) (l' := [Hp.rec_ S [hv, .int .u32 ((mk l : Nat) : Int), lv10, .int .i64 (regsL h (l ++ [k]) 0), .int .i64 (regsL h (l ++ [k]) 1), .int .i64 (regsL h (l ++ [k]) 2), .int .i64 (regsL h (l ++ [k]) 3)], Hp.own FN 1 lv10 (l ++ [k]), Hp.rec_ b6 [.int .i64 (regsL h l 0), .int .i64 (regsL h l 1), .int .i64 (regsL h l 2), .int .i64 (regsL h l 3)], Hp.rec_ b4 [.int .i64 x3.who, .int .i64 x3.reg, .bool x3.write, .int .i64 x3.val, .int .i64 x3.fr, .int .i64 x3.to], R]) rfl) ?_
            rintro _ _ rfl
            refine Gx.done ?_
            refine Gx.thenN ?_
            refine Gx.seq ?_
            refine Gx.regionO (fun j => false) 14 [0, 1, 2, 3, 4, 5, 6, 7, 8, 9, 10, 11, 12, 13] (fun _ => [Hp.rec_ S [hv, .int .u32 ((mk l : Nat) : Int), lv10, .int .i64 (regsL h (l ++ [k]) 0), .int .i64 (regsL h (l ++ [k]) 1), .int .i64 (regsL h (l ++ [k]) 2), .int .i64 (regsL h (l ++ [k]) 3)], Hp.own FN 1 lv10 (l ++ [k]), Hp.rec_ b6 [.int .i64 (regsL h l 0), .int .i64 (regsL h l 1), .int .i64 (regsL h l 2), .int .i64 (regsL h l 3)], Hp.rec_ b4 [.int .i64 x3.who, .int .i64 x3.reg, .bool x3.write, .int .i64 x3.val, .int .i64 x3.fr, .int .i64 x3.to], R]) Try.mixed (by kernel_rfl) rfl ?_
            refine Gw.val rfl rfl rfl rfl rfl (fun us => val_move rfl rfl) ?_
            refine Gw.val rfl rfl rfl rfl rfl (fun us => val_move rfl rfl) ?_
            refine Gw.val rfl rfl rfl rfl rfl (fun us => val_nilCheck rfl rfl) ?_
            refine Gw.val rfl rfl rfl rfl rfl (fun us => Val.cast (val_fieldAddr rfl Try.underlying59 rfl Try.ty38 rfl rfl) (v' := ptr S 2) rfl) ?_
            refine Gw.val0 rfl rfl rfl (by kernel_rfl) rfl rfl (val_load rfl Try.ty38 rfl rfl (cell_rec (k := 0) rfl rfl)) ?_
            refine Gw.val rfl rfl rfl rfl rfl (fun us => val_move rfl rfl) ?_
            refine Gw.val rfl rfl rfl rfl rfl (fun us => val_nilCheck rfl rfl) ?_
            refine Gw.val rfl rfl rfl rfl rfl (fun us => Val.cast (val_fieldAddr rfl Try.underlying59 rfl Try.ty38 rfl rfl) (v' := ptr S 2) rfl) ?_
            refine Gw.val0 rfl rfl rfl (by kernel_rfl) rfl rfl (val_load rfl Try.ty38 rfl rfl (cell_rec (k := 0) rfl rfl)) ?_
            refine Gw.val0 rfl rfl rfl (by kernel_rfl) rfl rfl (val_len rfl Try.underlying38 rfl (len_own (k := 1) rfl)) ?_
            refine Gw.val rfl rfl rfl rfl rfl (fun us => val_sub rfl rfl rfl (r := ((((l ++ [k]).length : Nat) : Int) - 1)) (w64 rfl (by omega))) ?_
            refine Gw.val0 rfl rfl rfl (by kernel_rfl) rfl rfl (val_cutToO (up := l.length) rfl Try.underlying38 Try.ty3 rfl (n := 1) rfl rfl (by simp) (by simp)) ?_
            refine Gw.val rfl rfl rfl rfl rfl (fun us => val_nilCheck rfl rfl) ?_
            refine Gw.val rfl rfl rfl rfl rfl (fun us => Val.cast (val_fieldAddr rfl Try.underlying59 rfl Try.ty38 rfl rfl) (v' := ptr S 2) rfl) ?_
            refine Gw.done ?_
            refine Gx.norm (l' := [Hp.rec_ S [hv, .int .u32 ((mk l : Nat) : Int), lv10, .int .i64 (regsL h (l ++ [k]) 0), .int .i64 (regsL h (l ++ [k]) 1), .int .i64 (regsL h (l ++ [k]) 2), .int .i64 (regsL h (l ++ [k]) 3)], Hp.own FN 1 lv10 (l ++ [k]), Hp.rec_ b6 [.int .i64 (regsL h l 0), .int .i64 (regsL h l 1), .int .i64 (regsL h l 2), .int .i64 (regsL h l 3)], Hp.rec_ b4 [.int .i64 x3.who, .int .i64 x3.reg, .bool x3.write, .int .i64 x3.val, .int .i64 x3.fr, .int .i64 x3.to], R]) rfl ?_
            refine Gx.eff0 rfl rfl (eff_store rfl Try.ty38 rfl rfl (us := [sCut 1 0 l.length lv10]) ((sCut_isS hilv10).cellsL) rfl ((sCut_isS hilv10).all) (k := 0) rfl (rfl) (vs' := [hv, .int .u32 ((mk l : Nat) : Int), sCut 1 0 l.length lv10, .int .i64 (regsL h (l ++ [k]) 0), .int .i64 (regsL h (l ++ [k]) 1), .int .i64 (regsL h (l ++ [k]) 2), .int .i64 (regsL h (l ++ [k]) 3)]) (rfl) (l' := [Hp.rec_ S [hv, .int .u32 ((mk l : Nat) : Int), sCut 1 0 l.length lv10, .int .i64 (regsL h (l ++ [k]) 0), .int .i64 (regsL h (l ++ [k]) 1), .int .i64 (regsL h (l ++ [k]) 2), .int .i64 (regsL h (l ++ [k]) 3)], Hp.own FN 1 lv10 (l ++ [k]), Hp.rec_ b6 [.int .i64 (regsL h l 0), .int .i64 (regsL h l 1), .int .i64 (regsL h l 2), .int .i64 (regsL h l 3)], Hp.rec_ b4 [.int .i64 x3.who, .int .i64 x3.reg, .bool x3.write, .int .i64 x3.val, .int .i64 x3.fr, .int .i64 x3.to], R]) rfl) ?_
            rintro _ _ rfl
            refine Gx.done ?_
            refine Gx.thenN ?_
            refine Gx.ownCut (k := 1) 0 l.length rfl (by omega) (by simp) rfl ?_
            refine Gx.norm (l' := [Hp.rec_ S [hv, .int .u32 ((mk l : Nat) : Int), sCut 1 0 l.length lv10, .int .i64 (regsL h (l ++ [k]) 0), .int .i64 (regsL h (l ++ [k]) 1), .int .i64 (regsL h (l ++ [k]) 2), .int .i64 (regsL h (l ++ [k]) 3)], Hp.own FN 1 (sCut 1 0 l.length lv10) l, Hp.rec_ b6 [.int .i64 (regsL h l 0), .int .i64 (regsL h l 1), .int .i64 (regsL h l 2), .int .i64 (regsL h l 3)], Hp.rec_ b4 [.int .i64 x3.who, .int .i64 x3.reg, .bool x3.write, .int .i64 x3.val, .int .i64 x3.fr, .int .i64 x3.to], R]) (by rw [show ((l ++ [k]).take l.length).drop 0 = l by simp] <;> rfl) ?_
            refine Gx.region ?_
            refine Gx.val rfl rfl rfl (val_move rfl rfl) ?_
            refine Gx.val rfl rfl rfl (Val.cast (val_loadA rfl Try.ty57 rfl rfl rfl (cells_rec (k := 2) rfl)) (v' := .agg #[.int .i64 (regsL h l 0), .int .i64 (regsL h l 1), .int .i64 (regsL h l 2), .int .i64 (regsL h l 3)]) rfl) ?_
            refine Gx.val rfl rfl rfl (val_nilCheck rfl rfl) ?_
            refine Gx.val rfl rfl rfl (Val.cast (val_fieldAddr rfl Try.underlying59 rfl Try.ty57 rfl rfl) (v' := ptr S 3) rfl) ?_
            refine Gx.eff0 rfl rfl (eff_store rfl Try.ty57 rfl rfl (us := [.int .i64 (regsL h l 0), .int .i64 (regsL h l 1), .int .i64 (regsL h l 2), .int .i64 (regsL h l 3)]) rfl rfl rfl (k := 0) rfl (rfl) (vs' := [hv, .int .u32 ((mk l : Nat) : Int), sCut 1 0 l.length lv10, .int .i64 (regsL h l 0), .int .i64 (regsL h l 1), .int .i64 (regsL h l 2), .int .i64 (regsL h l 3)]) (rfl) (l' := [Hp.rec_ S [hv, .int .u32 ((mk l : Nat) : Int), sCut 1 0 l.length lv10, .int .i64 (regsL h l 0), .int .i64 (regsL h l 1), .int .i64 (regsL h l 2), .int .i64 (regsL h l 3)], Hp.own FN 1 (sCut 1 0 l.length lv10) l, Hp.rec_ b6 [.int .i64 (regsL h l 0), .int .i64 (regsL h l 1), .int .i64 (regsL h l 2), .int .i64 (regsL h l 3)], Hp.rec_ b4 [.int .i64 x3.who, .int .i64 x3.reg, .bool x3.write, .int .i64 x3.val, .int .i64 x3.fr, .int .i64 x3.to], R]) rfl) ?_
            rintro _ _ rfl
            refine Gx.done ?_
            refine Gx.blkN ?_
            refine Gx.thenN ?_
            refine Gx.region ?_
            refine Gx.val rfl rfl rfl (val_add rfl rfl rfl (r := ((k + 1 : Nat) : Int)) (w64 (by omega) (by omega))) ?_
            refine Gx.val rfl rfl rfl (val_move rfl rfl) ?_
            refine Gx.done ?_
            refine Gx.thenN ?_
            refine Gx.drop 3 rfl ?_
            refine Gx.drop 2 rfl ?_
            exact Gx.round (k + 1, sCut 1 0 l.length lv10) ⟨by first | omega | (dsimp only; omega), fs_none hn (by unfold FF; rw [if_pos hmay]; exact hfn), (sCut_isS hilv10)⟩ (by first | omega | (dsimp only; omega)) ((.cons rfl (.cons rfl (.cons rfl (.cons rfl .nil))))) rfl
        · refine Gx.skip ?_
          refine Gx.thenN ?_
          refine Gx.seq ?_
          refine Gx.seq ?_
          have hR : regsL h (l ++ [k]) = regsL h l := by rw [regsL_snoc hx3]; unfold stepR; simp_all
          refine Gx.norm (l' := [Hp.rec_ b6 [.int .i64 (regsL h l 0), .int .i64 (regsL h l 1), .int .i64 (regsL h l 2), .int .i64 (regsL h l 3)], Hp.rec_ b4 [.int .i64 x3.who, .int .i64 x3.reg, .bool x3.write, .int .i64 x3.val, .int .i64 x3.fr, .int .i64 x3.to], Hp.rec_ S [hv, .int .u32 ((mk (l ++ [k]) : Nat) : Int), v8, .int .i64 (regsL h (l ++ [k]) 0), .int .i64 (regsL h (l ++ [k]) 1), .int .i64 (regsL h (l ++ [k]) 2), .int .i64 (regsL h (l ++ [k]) 3)], Hp.own FN 1 v8 (l ++ [k]), R]) (by rw [hR] <;> rfl) ?_
          refine Gx.region ?_
          refine Gx.val rfl rfl rfl (val_move rfl rfl) ?_
          refine Gx.eff rfl rfl rfl (eff_call (vs := [ptr S 0]) rfl Try.fn13 rfl (fun w H => (ih (h.length - (l ++ [k]).length) (by omega) (l ++ [k]) v8 rfl G2 hok hiv8 hs (H.at2 (k := 2) (k' := 2) rfl rfl)))) ?_
          rintro _ l14 ⟨lv13, hilv13, rfl, hl14⟩
          refine Gx.sepEq (l' := [Hp.rec_ S [hv, .int .u32 ((mk ((FL h (l ++ [k])).getD (l ++ [k])) : Nat) : Int), lv13, .int .i64 (regsL h ((FL h (l ++ [k])).getD (l ++ [k])) 0), .int .i64 (regsL h ((FL h (l ++ [k])).getD (l ++ [k])) 1), .int .i64 (regsL h ((FL h (l ++ [k])).getD (l ++ [k])) 2), .int .i64 (regsL h ((FL h (l ++ [k])).getD (l ++ [k])) 3)], Hp.own FN 1 lv13 ((FL h (l ++ [k])).getD (l ++ [k])), Hp.rec_ b6 [.int .i64 (regsL h l 0), .int .i64 (regsL h l 1), .int .i64 (regsL h l 2), .int .i64 (regsL h l 3)], Hp.rec_ b4 [.int .i64 x3.who, .int .i64 x3.reg, .bool x3.write, .int .i64 x3.val, .int .i64 x3.fr, .int .i64 x3.to], R]) hl14 ?_
          refine Gx.done ?_
          refine Gx.thenN ?_
          refine Gx.bool rfl (fun h15 => ?_) (fun h15 => ?_)
          · refine Gx.seq ?_
            refine Gx.region ?_
            refine Gx.val rfl rfl rfl (val_assign rfl rfl) ?_
            refine Gx.done ?_
            refine Gx.thenN ?_
            refine Gx.ret ?_
            refine Gx.thenR ?_
            refine Gx.blkR ?_
            refine Gx.thenR ?_
            refine Gx.thenR ?_
            refine Gx.blkR ?_
            refine Gx.thenR ?_
            refine Gx.drop 3 rfl ?_
            refine Gx.drop 2 rfl ?_
            refine Gx.ret1 Try.results13 rfl ?_
            obtain ⟨m, hm⟩ := Option.isSome_iff_exists.1 (by assumption : (FL h (l ++ [k])).isSome = true)
            have hfl : FL h l = some m := by rw [FL_eq G, if_neg hnf]; exact fs_some hn (show FF h l k = some m by unfold FF; rw [if_pos (by simp_all)]; exact hm) _ (by omega)
            rw [hfl, hm]
            exact ⟨_, hilv13, rfl, sep2 _ _ _⟩
          · have hfn : FL h (l ++ [k]) = none := by simpa using h15
            have hgd : ((FL h (l ++ [k])).getD (l ++ [k])) = l ++ [k] := by rw [hfn]; rfl
            refine Gx.norm (l' := [Hp.rec_ S [hv, .int .u32 ((mk (l ++ [k]) : Nat) : Int), lv13, .int .i64 (regsL h (l ++ [k]) 0), .int .i64 (regsL h (l ++ [k]) 1), .int .i64 (regsL h (l ++ [k]) 2), .int .i64 (regsL h (l ++ [k]) 3)], Hp.own FN 1 lv13 (l ++ [k]), Hp.rec_ b6 [.int .i64 (regsL h l 0), .int .i64 (regsL h l 1), .int .i64 (regsL h l 2), .int .i64 (regsL h l 3)], Hp.rec_ b4 [.int .i64 x3.who, .int .i64 x3.reg, .bool x3.write, .int .i64 x3.val, .int .i64 x3.fr, .int .i64 x3.to], R]) (by rw [hgd] <;> rfl) ?_
            refine Gx.skip ?_
            refine Gx.thenN ?_
            refine Gx.seq ?_
            refine Gx.regionO (fun j => false) 9 [0, 1, 2, 3, 4, 5, 6, 7, 8] (fun _ => [Hp.rec_ S [hv, .int .u32 ((mk (l ++ [k]) : Nat) : Int), lv13, .int .i64 (regsL h (l ++ [k]) 0), .int .i64 (regsL h (l ++ [k]) 1), .int .i64 (regsL h (l ++ [k]) 2), .int .i64 (regsL h (l ++ [k]) 3)], Hp.own FN 1 lv13 (l ++ [k]), Hp.rec_ b6 [.int .i64 (regsL h l 0), .int .i64 (regsL h l 1), .int .i64 (regsL h l 2), .int .i64 (regsL h l 3)], Hp.rec_ b4 [.int .i64 x3.who, .int .i64 x3.reg, .bool x3.write, .int .i64 x3.val, .int .i64 x3.fr, .int .i64 x3.to], R]) Try.mixed (by kernel_rfl) rfl ?_
            refine Gw.val rfl rfl rfl rfl rfl (fun us => val_move rfl rfl) ?_
            refine Gw.val rfl rfl rfl rfl rfl (fun us => val_nilCheck rfl rfl) ?_
            refine Gw.val rfl rfl rfl rfl rfl (fun us => Val.cast (val_fieldAddr rfl Try.underlying59 rfl Try.ty52 rfl rfl) (v' := ptr S 1) rfl) ?_
            refine Gw.val0 rfl rfl rfl (by kernel_rfl) rfl rfl (val_load rfl Try.ty52 rfl rfl (cell_rec (k := 0) rfl rfl)) ?_
            refine Gw.val rfl rfl rfl rfl rfl (fun us => val_move rfl rfl) ?_
            refine Gw.val rfl rfl rfl rfl rfl (fun us => val_shl (b := k) rfl rfl rfl rfl (by show k ≤ 32; omega) (shl1 (by omega))) ?_
            refine Gw.val rfl rfl rfl rfl rfl (fun us => val_andNot rfl rfl rfl (andNot32 (gd_mk G2 hok) (pow32 (by omega)) (gd_mk G hok) (mk_not hkl))) ?_
            refine Gw.val rfl rfl rfl rfl rfl (fun us => val_nilCheck rfl rfl) ?_
            refine Gw.val rfl rfl rfl rfl rfl (fun us => Val.cast (val_fieldAddr rfl Try.underlying59 rfl Try.ty52 rfl rfl) (v' := ptr S 1) rfl) ?_
            refine Gw.done ?_
            refine Gx.norm (l' := [Hp.rec_ S [hv, .int .u32 ((mk (l ++ [k]) : Nat) : Int), lv13, .int .i64 (regsL h (l ++ [k]) 0), .int .i64 (regsL h (l ++ [k]) 1), .int .i64 (regsL h (l ++ [k]) 2), .int .i64 (regsL h (l ++ [k]) 3)], Hp.own FN 1 lv13 (l ++ [k]), Hp.rec_ b6 [.int .i64 (regsL h l 0), .int .i64 (regsL h l 1), .int .i64 (regsL h l 2), .int .i64 (regsL h l 3)], Hp.rec_ b4 [.int .i64 x3.who, .int .i64 x3.reg, .bool x3.write, .int .i64 x3.val, .int .i64 x3.fr, .int .i64 x3.to], R]) rfl ?_
            refine Gx.eff0 rfl rfl (eff_store rfl Try.ty52 rfl rfl (us := [.int .u32 ((mk l : Nat) : Int)]) rfl rfl rfl (k := 0) rfl (rfl) (vs' := [hv, .int .u32 ((mk l : Nat) : Int), lv13, .int .i64 (regsL h (l ++ [k]) 0), .int .i64 (regsL h (l ++ [k]) 1), .int .i64 (regsL h (l ++ [k]) 2), .int .i64 (regsL h (l ++ [k]) 3)]) (rfl) (l' := [Hp.rec_ S [hv, .int .u32 ((mk l : Nat) : Int), lv13, .int .i64 (regsL h (l ++ [k]) 0), .int .i64 (regsL h (l ++ [k]) 1), .int .i64 (regsL h (l ++ [k]) 2), .int .i64 (regsL h (l ++ [k]) 3)], Hp.own FN 1 lv13 (l ++ [k]), Hp.rec_ b6 [.int .i64 (regsL h l 0), .int .i64 (regsL h l 1), .int .i64 (regsL h l 2), .int .i64 (regsL h l 3)], Hp.rec_ b4 [.int .i64 x3.who, .int .i64 x3.reg, .bool x3.write, .int .i64 x3.val, .int .i64 x3.fr, .int .i64 x3.to], R]) rfl) ?_
            rintro _ _ rfl
            refine Gx.done ?_
            refine Gx.thenN ?_
            refine Gx.seq ?_
            refine Gx.regionO (fun j => false) 14 [0, 1, 2, 3, 4, 5, 6, 7, 8, 9, 10, 11, 12, 13] (fun _ => [Hp.rec_ S [hv, .int .u32 ((mk l : Nat) : Int), lv13, .int .i64 (regsL h (l ++ [k]) 0), .int .i64 (regsL h (l ++ [k]) 1), .int .i64 (regsL h (l ++ [k]) 2), .int .i64 (regsL h (l ++ [k]) 3)], Hp.own FN 1 lv13 (l ++ [k]), Hp.rec_ b6 [.int .i64 (regsL h l 0), .int .i64 (regsL h l 1), .int .i64 (regsL h l 2), .int .i64 (regsL h l 3)], Hp.rec_ b4 [.int .i64 x3.who, .int .i64 x3.reg, .bool x3.write, .int .i64 x3.val, .int .i64 x3.fr, .int .i64 x3.to], R]) Try.mixed (by kernel_rfl) rfl ?_
            refine Gw.val rfl rfl rfl rfl rfl (fun us => val_move rfl rfl) ?_
            refine Gw.val rfl rfl rfl rfl rfl (fun us => val_move rfl rfl) ?_
            refine Gw.val rfl rfl rfl rfl rfl (fun us => val_nilCheck rfl rfl) ?_
            refine Gw.val rfl rfl rfl rfl rfl (fun us => Val.cast (val_fieldAddr rfl Try.underlying59 rfl Try.ty38 rfl rfl) (v' := ptr S 2) rfl) ?_
            refine Gw.val0 rfl rfl rfl (by kernel_rfl) rfl rfl (val_load rfl Try.ty38 rfl rfl (cell_rec (k := 0) rfl rfl)) ?_
            refine Gw.val rfl rfl rfl rfl rfl (fun us => val_move rfl rfl) ?_
            refine Gw.val rfl rfl rfl rfl rfl (fun us => val_nilCheck rfl rfl) ?_
            refine Gw.val rfl rfl rfl rfl rfl (fun us => Val.cast (val_fieldAddr rfl Try.underlying59 rfl Try.ty38 rfl rfl) (v' := ptr S 2) rfl) ?_
            refine Gw.val0 rfl rfl rfl (by kernel_rfl) rfl rfl (val_load rfl Try.ty38 rfl rfl (cell_rec (k := 0) rfl rfl)) ?_
            refine Gw.val0 rfl rfl rfl (by kernel_rfl) rfl rfl (val_len rfl Try.underlying38 rfl (len_own (k := 1) rfl)) ?_
            refine Gw.val rfl rfl rfl rfl rfl (fun us => val_sub rfl rfl rfl (r := ((((l ++ [k]).length : Nat) : Int) - 1)) (w64 rfl (by omega))) ?_
            refine Gw.val0 rfl rfl rfl (by kernel_rfl) rfl rfl (val_cutToO (up := l.length) rfl Try.underlying38 Try.ty3 rfl (n := 1) rfl rfl (by simp) (by simp)) ?_
            refine Gw.val rfl rfl rfl rfl rfl (fun us => val_nilCheck rfl rfl) ?_
            refine Gw.val rfl rfl rfl rfl rfl (fun us => Val.cast (val_fieldAddr rfl Try.underlying59 rfl Try.ty38 rfl rfl) (v' := ptr S 2) rfl) ?_
            refine Gw.done ?_
            refine Gx.norm (l' := [Hp.rec_ S [hv, .int .u32 ((mk l : Nat) : Int), lv13, .int .i64 (regsL h (l ++ [k]) 0), .int .i64 (regsL h (l ++ [k]) 1), .int .i64 (regsL h (l ++ [k]) 2), .int .i64 (regsL h (l ++ [k]) 3)], Hp.own FN 1 lv13 (l ++ [k]), Hp.rec_ b6 [.int .i64 (regsL h l 0), .int .i64 (regsL h l 1), .int .i64 (regsL h l 2), .int .i64 (regsL h l 3)], Hp.rec_ b4 [.int .i64 x3.who, .int .i64 x3.reg, .bool x3.write, .int .i64 x3.val, .int .i64 x3.fr, .int .i64 x3.to], R]) rfl ?_
            refine Gx.eff0 rfl rfl (eff_store rfl Try.ty38 rfl rfl (us := [sCut 1 0 l.length lv13]) ((sCut_isS hilv13).cellsL) rfl ((sCut_isS hilv13).all) (k := 0) rfl (rfl) (vs' := [hv, .int .u32 ((mk l : Nat) : Int), sCut 1 0 l.length lv13, .int .i64 (regsL h (l ++ [k]) 0), .int .i64 (regsL h (l ++ [k]) 1), .int .i64 (regsL h (l ++ [k]) 2), .int .i64 (regsL h (l ++ [k]) 3)]) (rfl) (l' := [Hp.rec_ S [hv, .int .u32 ((mk l : Nat) : Int), sCut 1 0 l.length lv13, .int .i64 (regsL h (l ++ [k]) 0), .int .i64 (regsL h (l ++ [k]) 1), .int .i64 (regsL h (l ++ [k]) 2), .int .i64 (regsL h (l ++ [k]) 3)], Hp.own FN 1 lv13 (l ++ [k]), Hp.rec_ b6 [.int .i64 (regsL h l 0), .int .i64 (regsL h l 1), .int .i64 (regsL h l 2), .int .i64 (regsL h l 3)], Hp.rec_ b4 [.int .i64 x3.who, .int .i64 x3.reg, .bool x3.write, .int .i64 x3.val, .int .i64 x3.fr, .int .i64 x3.to], R]) rfl) ?_
            rintro _ _ rfl
            refine Gx.done ?_
            refine Gx.thenN ?_
            refine Gx.ownCut (k := 1) 0 l.length rfl (by omega) (by simp) rfl ?_
            refine Gx.norm (l' := [Hp.rec_ S [hv, .int .u32 ((mk l : Nat) : Int), sCut 1 0 l.length lv13, .int .i64 (regsL h (l ++ [k]) 0), .int .i64 (regsL h (l ++ [k]) 1), .int .i64 (regsL h (l ++ [k]) 2), .int .i64 (regsL h (l ++ [k]) 3)], Hp.own FN 1 (sCut 1 0 l.length lv13) l, Hp.rec_ b6 [.int .i64 (regsL h l 0), .int .i64 (regsL h l 1), .int .i64 (regsL h l 2), .int .i64 (regsL h l 3)], Hp.rec_ b4 [.int .i64 x3.who, .int .i64 x3.reg, .bool x3.write, .int .i64 x3.val, .int .i64 x3.fr, .int .i64 x3.to], R]) (by rw [show ((l ++ [k]).take l.length).drop 0 = l by simp] <;> rfl) ?_
            refine Gx.region ?_
            refine Gx.val rfl rfl rfl (val_move rfl rfl) ?_
            refine Gx.val rfl rfl rfl (Val.cast (val_loadA rfl Try.ty57 rfl rfl rfl (cells_rec (k := 2) rfl)) (v' := .agg #[.int .i64 (regsL h l 0), .int .i64 (regsL h l 1), .int .i64 (regsL h l 2), .int .i64 (regsL h l 3)]) rfl) ?_
            refine Gx.val rfl rfl rfl (val_nilCheck rfl rfl) ?_
            refine Gx.val rfl rfl rfl (Val.cast (val_fieldAddr rfl Try.underlying59 rfl Try.ty57 rfl rfl) (v' := ptr S 3) rfl) ?_
            refine Gx.eff0 rfl rfl (eff_store rfl Try.ty57 rfl rfl (us := [.int .i64 (regsL h l 0), .int .i64 (regsL h l 1), .int .i64 (regsL h l 2), .int .i64 (regsL h l 3)]) rfl rfl rfl (k := 0) rfl (rfl) (vs' := [hv, .int .u32 ((mk l : Nat) : Int), sCut 1 0 l.length lv13, .int .i64 (regsL h l 0), .int .i64 (regsL h l 1), .int .i64 (regsL h l 2), .int .i64 (regsL h l 3)]) (rfl) (l' := [Hp.rec_ S [hv, .int .u32 ((mk l : Nat) : Int), sCut 1 0 l.length lv13, .int .i64 (regsL h l 0), .int .i64 (regsL h l 1), .int .i64 (regsL h l 2), .int .i64 (regsL h l 3)], Hp.own FN 1 (sCut 1 0 l.length lv13) l, Hp.rec_ b6 [.int .i64 (regsL h l 0), .int .i64 (regsL h l 1), .int .i64 (regsL h l 2), .int .i64 (regsL h l 3)], Hp.rec_ b4 [.int .i64 x3.who, .int .i64 x3.reg, .bool x3.write, .int .i64 x3.val, .int .i64 x3.fr, .int .i64 x3.to], R]) rfl) ?_
            rintro _ _ rfl
            refine Gx.done ?_
            refine Gx.blkN ?_
            refine Gx.thenN ?_
            refine Gx.region ?_
            refine Gx.val rfl rfl rfl (val_add rfl rfl rfl (r := ((k + 1 : Nat) : Int)) (w64 (by omega) (by omega))) ?_
            refine Gx.val rfl rfl rfl (val_move rfl rfl) ?_
            refine Gx.done ?_
            refine Gx.thenN ?_
            refine Gx.drop 3 rfl ?_
            refine Gx.drop 2 rfl ?_
            exact Gx.round (k + 1, sCut 1 0 l.length lv13) ⟨by first | omega | (dsimp only; omega), fs_none hn (by unfold FF; rw [if_pos hmay]; exact hfn), (sCut_isS hilv13)⟩ (by first | omega | (dsimp only; omega)) ((.cons rfl (.cons rfl (.cons rfl (.cons rfl .nil))))) rfl
    · refine Gx.exit ?_
      refine Gx.thenE ?_
      refine Gx.thenE ?_
      refine Gx.blkE ?_
      refine Gx.thenN ?_
      refine Gx.seq ?_
      refine Gx.region ?_
      refine Gx.val rfl rfl rfl (val_assign rfl rfl) ?_
      refine Gx.done ?_
      refine Gx.thenN ?_
      refine Gx.ret ?_
      refine Gx.ret1 Try.results13 rfl ?_
      obtain rfl : k = h.length := by omega
      have hfl : FL h l = none := by rw [FL_eq G, if_neg hnf]; exact hn
      rw [hfl]
      exact ⟨_, hiw, rfl, sep2 _ _ _⟩

end Go.Proofs.Ytjiefamdpbnngaa.Lin
