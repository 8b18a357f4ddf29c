/- What is in a cut, and is it whole: the document's own words. The walks. No condition. -/
import Derived.Test.YtffnjojdjbdfcaaD3
namespace Go.Proofs.Ytffnjojdjbdfcaa
open Go.RowKit
set_option linter.unusedVariables false
set_option linter.unusedSimpArgs false
set_option maxRecDepth 100000

def inB (l : List En) (c : List Nat) (k : Nat) : List Bool := (List.range k).map fun i => match l[i]? with | some e => decide (cntL l e.who i + 1 ≤ c.getD e.who 0) | none => false
theorem inB_len (l : List En) (c : List Nat) (k : Nat) : (inB l c k).length = k := by simp [inB]
theorem inB_succ {l : List En} {c : List Nat} {k : Nat} {e : En} (h : l[k]? = some e) : inB l c (k + 1) = inB l c k ++ [decide (cntL l e.who k + 1 ≤ c.getD e.who 0)] := by
  unfold inB; rw [List.range_succ, List.map_append]; simp [h]
theorem inB_get {l : List En} {c : List Nat} {k i : Nat} {e : En} (h : l[i]? = some e) (hi : i < k) : (inB l c k)[i]? = some (decide (cntL l e.who i + 1 ≤ c.getD e.who 0)) := by
  simp [inB, hi, h]
theorem in_any {W : World} {n : Nat} {l : List En} {c : List Nat} {hv cv : Value} (hok : OkC n l) (hcut : Cut n l c) (hs : SlS FEn 3 W hv l) (hc : SlS FN 1 W cv c) :
    Calls Try.prog 26 #[hv, cv] W (Ret W fun v l9 => ∃ u, v = u ∧ l9 = [Hp.own FB 1 u (inB l c l.length)] ∧ IsS u) := by
  have hfew := hok.few
  have h1n := hok.low
  have h6n := hok.high
  have hcl0 := hcut.len
  refine Gx.enter (l := []) Try.func26 rfl Try.ntmps26 rfl (Sat.start W) ?_
  refine Gx.know (m' := [(0, hv), (1, cv)]) (.cons rfl (.cons rfl .nil)) ?_
  refine Gx.seq ?_
  refine Gx.region ?_
  refine Gx.val rfl rfl rfl (val_assign rfl rfl) ?_
  refine Gx.done ?_
  refine Gx.thenN ?_
  refine Gx.seq ?_
  refine Gx.region ?_
  refine Gx.val rfl rfl rfl (val_move rfl rfl) ?_
  refine Gx.val rfl rfl rfl (val_len rfl Try.underlying23 rfl (len_base hc)) ?_
  refine Gx.eff rfl rfl rfl (eff_makeSlice (n := c.length) (f := FN) rfl Try.underlying23 Try.ty3 rfl rfl (rfl) (rfl) FN_len 0 rfl (by omega) (by omega)) ?_
  rintro v1 _ ⟨hiv1, rfl⟩
  refine Gx.val rfl rfl rfl (val_assign rfl rfl) ?_
  refine Gx.done ?_
  refine Gx.thenN ?_
  refine Gx.seq ?_
  refine Gx.ownNil FB 1 ?_
  refine Gx.norm (l' := [Hp.own FB 1 (.slice none 0 0) (inB l c 0), Hp.own FN 1 v1 (fullC n l 0)]) (by rw [full_zero, hcut.len] <;> rfl) ?_
  refine Gx.region ?_
  refine Gx.val rfl rfl rfl (val_assign rfl rfl) ?_
  refine Gx.done ?_
  refine Gx.thenN ?_
  refine Gx.seq ?_
  refine Gx.seq ?_
  refine Gx.region ?_
  refine Gx.val rfl rfl rfl (val_move rfl rfl) ?_
  refine Gx.val rfl rfl rfl (val_len rfl Try.underlying22 rfl (len_base hs)) ?_
  refine Gx.val rfl rfl rfl (val_move rfl rfl) ?_
  refine Gx.done ?_
  refine Gx.thenN ?_
  refine Gx.block ?_
  refine Gx.loop (ι := Nat × Value) (fun ξ => (ξ.1 ≤ l.length) ∧ (IsS ξ.2)) (fun ξ => [(0, hv), (1, cv), (5, v1), (6, ξ.2), (12, hv), (13, .int .i64 ((l.length : Nat) : Int)), (14, .int .i64 ((ξ.1 : Nat) : Int))]) (fun ξ => [Hp.own FB 1 ξ.2 (inB l c ξ.1), Hp.own FN 1 v1 (fullC n l ξ.1)]) (fun ξ => l.length - ξ.1) (0, (.slice none 0 0)) ⟨by first | omega | (dsimp only; omega), ⟨none, 0, 0, rfl⟩⟩ ((.cons rfl (.cons rfl (.cons rfl (.cons rfl (.cons rfl (.cons rfl (.cons rfl .nil)))))))) rfl ?_
  rintro ⟨k, lv⟩ ⟨hk, hil⟩
  dsimp only at hk hil
  refine Gx.know (m' := [(0, hv), (1, cv), (5, v1), (6, lv), (12, hv), (13, .int .i64 ((l.length : Nat) : Int)), (14, .int .i64 ((k : Nat) : Int))]) (.cons rfl (.cons rfl (.cons rfl (.cons rfl (.cons rfl (.cons rfl (.cons rfl .nil))))))) (Gx.norm (l' := [Hp.own FB 1 lv (inB l c k), Hp.own FN 1 v1 (fullC n l k)]) rfl ?_)
  have hbl := inB_len l c k
  have hnl := full_len n l k
  refine Gx.seq ?_
  refine Gx.region ?_
  refine Gx.val rfl rfl rfl (val_lss rfl rfl rfl) ?_
  refine Gx.done ?_
  refine Gx.thenN ?_
  refine Gx.seq ?_
  refine Gx.dec rfl (fun h2 => ?_) (fun h2 => ?_)
  · refine Gx.skip ?_
    refine Gx.thenN ?_
    refine Gx.seq ?_
    refine Gx.block ?_
    refine Gx.seq ?_
    refine Gx.region ?_
    obtain ⟨x3, hx3⟩ := get_of_lt (xs := l) (k := k) (by omega)
    refine Gx.val rfl rfl rfl (val_ixa rfl Try.underlying22 Try.ty36 rfl rfl (j := k) (rfl) (reach_base hs hx3)) ?_
    refine Gx.val rfl rfl rfl (Val.cast (val_loadA rfl Try.ty36 rfl rfl rfl (cells_base hs hx3)) (v' := .agg #[.int .i64 x3.kind, .int .i64 ((x3.who : Nat) : Int), .int .i64 x3.src]) rfl) ?_
    refine Gx.eff rfl rfl rfl (eff_alloc rfl Try.ty36 (vs := [.int .i64 0, .int .i64 0, .int .i64 0]) rfl) ?_
    rintro _ _ ⟨b4, rfl, rfl⟩
    refine Gx.eff0 rfl rfl (eff_store rfl Try.ty36 rfl rfl (us := [.int .i64 x3.kind, .int .i64 ((x3.who : Nat) : Int), .int .i64 x3.src]) rfl rfl rfl (k := 0) rfl (rfl) (vs' := [.int .i64 x3.kind, .int .i64 ((x3.who : Nat) : Int), .int .i64 x3.src]) (rfl) (l' := [Hp.rec_ b4 [.int .i64 x3.kind, .int .i64 ((x3.who : Nat) : Int), .int .i64 x3.src], Hp.own FB 1 lv (inB l c k), Hp.own FN 1 v1 (fullC n l k)]) rfl) ?_
    rintro _ _ rfl
    refine Gx.done ?_
    refine Gx.thenN ?_
    refine Gx.seq ?_
    have hw := (hok.all _ _ hx3).2.1
    have hcl := cnt_le l x3.who k
    obtain ⟨cw, hcw⟩ := get_of_lt (xs := c) (k := x3.who) (by rw [hcut.len]; exact hw)
    have hcwl := hcut.le _ _ hcw
    have hcl2 := cnt_le l x3.who l.length
    refine Gx.regionO (fun j => false) 10 [0, 1, 2, 3, 4, 5, 6, 7, 8, 9] (fun _ => [Hp.rec_ b4 [.int .i64 x3.kind, .int .i64 ((x3.who : Nat) : Int), .int .i64 x3.src], Hp.own FB 1 lv (inB l c k), Hp.own FN 1 v1 (fullC n l k)]) Try.mixed (by kernel_rfl) rfl ?_
    refine Gw.val rfl rfl rfl rfl rfl (fun us => val_move rfl rfl) ?_
    refine Gw.val rfl rfl rfl rfl rfl (fun us => Val.cast (val_fieldAddr rfl Try.underlying36 rfl Try.ty3 rfl rfl) (v' := ptr b4 1) rfl) ?_
    refine Gw.val0 rfl rfl rfl (by kernel_rfl) rfl rfl (val_load rfl Try.ty3 rfl rfl (cell_rec (k := 0) rfl rfl)) ?_
    refine Gw.val rfl rfl rfl rfl rfl (fun us => val_move rfl rfl) ?_
    refine Gw.val rfl rfl rfl rfl rfl (fun us => Val.cast (val_fieldAddr rfl Try.underlying36 rfl Try.ty3 rfl rfl) (v' := ptr b4 1) rfl) ?_
    refine Gw.val0 rfl rfl rfl (by kernel_rfl) rfl rfl (val_load rfl Try.ty3 rfl rfl (cell_rec (k := 0) rfl rfl)) ?_
    refine Gw.val0 rfl rfl rfl (by kernel_rfl) rfl rfl (val_ixa rfl Try.underlying23 Try.ty3 rfl rfl (j := x3.who) (rfl) (reach_own (k := 2) rfl (full_get hw))) ?_
    refine Gw.val0 rfl rfl rfl (by kernel_rfl) rfl rfl (val_load rfl Try.ty3 rfl rfl (cell_own (i := 0) (k := 2) rfl (full_get hw) rfl)) ?_
    refine Gw.val rfl rfl rfl rfl rfl (fun us => val_add rfl rfl rfl (r := (((cntL l x3.who k) + 1 : Nat) : Int)) (w64 (by omega) (by omega))) ?_
    refine Gw.val0 rfl rfl rfl (by kernel_rfl) rfl rfl (val_ixa rfl Try.underlying23 Try.ty3 rfl rfl (j := x3.who) (rfl) (reach_own (k := 2) rfl (full_get hw))) ?_
    refine Gw.done ?_
    refine Gx.norm (l' := [Hp.rec_ b4 [.int .i64 x3.kind, .int .i64 ((x3.who : Nat) : Int), .int .i64 x3.src], Hp.own FB 1 lv (inB l c k), Hp.own FN 1 v1 (fullC n l k)]) rfl ?_
    refine Gx.eff0 rfl rfl (eff_storeElA (cntL l x3.who k + 1) rfl Try.ty3 rfl rfl rfl FN_one (k := 2) rfl FN_len (full_get hw) (l' := [Hp.rec_ b4 [.int .i64 x3.kind, .int .i64 ((x3.who : Nat) : Int), .int .i64 x3.src], Hp.own FB 1 lv (inB l c k), Hp.own FN 1 v1 (((fullC n l k)).set x3.who (cntL l x3.who k + 1))]) rfl) ?_
    rintro _ _ rfl
    refine Gx.done ?_
    refine Gx.thenN ?_
    refine Gx.regionO (fun j => j == 12 || j == 13) 14 [0, 1, 2, 3, 4, 5, 6, 7, 8, 9, 10, 11, 12, 13] (fun us => match us with | [] => [Hp.rec_ b4 [.int .i64 x3.kind, .int .i64 ((x3.who : Nat) : Int), .int .i64 x3.src], Hp.own FB 1 lv (inB l c k), Hp.own FN 1 v1 (((fullC n l k)).set x3.who (cntL l x3.who k + 1))] | [u1] => [Hp.rec_ (sB u1) [.bool (decide ((((cntL l x3.who k + 1) : Nat) : Int) ≤ ((cw : Nat) : Int)))], Hp.rec_ b4 [.int .i64 x3.kind, .int .i64 ((x3.who : Nat) : Int), .int .i64 x3.src], Hp.own FB 1 lv (inB l c k), Hp.own FN 1 v1 (((fullC n l k)).set x3.who (cntL l x3.who k + 1))] | u1 :: u2 :: _ => [Hp.rec_ b4 [.int .i64 x3.kind, .int .i64 ((x3.who : Nat) : Int), .int .i64 x3.src], Hp.own FB 1 u2 ((inB l c k) ++ [(decide (((cntL l x3.who k + 1 : Nat) : Int) ≤ ((cw : Nat) : Int)))]), Hp.own FN 1 v1 (((fullC n l k)).set x3.who (cntL l x3.who k + 1))]) Try.mixed (by kernel_rfl) rfl ?_
    refine Gw.val rfl rfl rfl rfl rfl (fun us => val_move rfl rfl) ?_
    refine Gw.val rfl rfl rfl rfl rfl (fun us => val_move rfl rfl) ?_
    refine Gw.val rfl rfl rfl rfl rfl (fun us => Val.cast (val_fieldAddr rfl Try.underlying36 rfl Try.ty3 rfl rfl) (v' := ptr b4 1) rfl) ?_
    refine Gw.val rfl rfl rfl rfl rfl (fun us => match us with | [] => val_load rfl Try.ty3 rfl rfl (cell_rec (k := 0) rfl rfl) | [u1] => val_load rfl Try.ty3 rfl rfl (cell_rec (k := 1) rfl rfl) | u1 :: u2 :: _ => val_load rfl Try.ty3 rfl rfl (cell_rec (k := 0) rfl rfl)) ?_
    refine Gw.val rfl rfl rfl rfl rfl (fun us => match us with | [] => val_ixa rfl Try.underlying23 Try.ty3 rfl rfl (j := x3.who) (rfl) (reach_own (k := 2) rfl (List.getElem?_set_self (List.getElem?_eq_some_iff.1 (full_get hw)).1)) | [u1] => val_ixa rfl Try.underlying23 Try.ty3 rfl rfl (j := x3.who) (rfl) (reach_own (k := 3) rfl (List.getElem?_set_self (List.getElem?_eq_some_iff.1 (full_get hw)).1)) | u1 :: u2 :: _ => val_ixa rfl Try.underlying23 Try.ty3 rfl rfl (j := x3.who) (rfl) (reach_own (k := 2) rfl (List.getElem?_set_self (List.getElem?_eq_some_iff.1 (full_get hw)).1))) ?_
    refine Gw.val rfl rfl rfl rfl rfl (fun us => match us with | [] => val_load rfl Try.ty3 rfl rfl (cell_own (i := 0) (k := 2) rfl (List.getElem?_set_self (List.getElem?_eq_some_iff.1 (full_get hw)).1) rfl) | [u1] => val_load rfl Try.ty3 rfl rfl (cell_own (i := 0) (k := 3) rfl (List.getElem?_set_self (List.getElem?_eq_some_iff.1 (full_get hw)).1) rfl) | u1 :: u2 :: _ => val_load rfl Try.ty3 rfl rfl (cell_own (i := 0) (k := 2) rfl (List.getElem?_set_self (List.getElem?_eq_some_iff.1 (full_get hw)).1) rfl)) ?_
    refine Gw.val rfl rfl rfl rfl rfl (fun us => val_move rfl rfl) ?_
    refine Gw.val rfl rfl rfl rfl rfl (fun us => Val.cast (val_fieldAddr rfl Try.underlying36 rfl Try.ty3 rfl rfl) (v' := ptr b4 1) rfl) ?_
    refine Gw.val rfl rfl rfl rfl rfl (fun us => match us with | [] => val_load rfl Try.ty3 rfl rfl (cell_rec (k := 0) rfl rfl) | [u1] => val_load rfl Try.ty3 rfl rfl (cell_rec (k := 1) rfl rfl) | u1 :: u2 :: _ => val_load rfl Try.ty3 rfl rfl (cell_rec (k := 0) rfl rfl)) ?_
    refine Gw.val rfl rfl rfl rfl rfl (fun us => val_ixa rfl Try.underlying23 Try.ty3 rfl rfl (j := x3.who) (rfl) (reach_base hc hcw)) ?_
    refine Gw.val rfl rfl rfl rfl rfl (fun us => val_load rfl Try.ty3 rfl rfl (cell_base (i := 0) hc hcw rfl)) ?_
    refine Gw.val rfl rfl rfl rfl rfl (fun us => val_leq rfl rfl rfl) ?_
    refine Gw.chg rfl rfl rfl rfl rfl (fun v => ∃ b5, v = .slice (some ⟨b5, 0, none⟩) 1 1) (Eff.mono (eff_buildSlice rfl (qs := [(0, .bool (decide ((((cntL l x3.who k + 1) : Nat) : Int) ≤ ((cw : Nat) : Int))))]) rfl rfl (cs := #[.bool (decide ((((cntL l x3.who k + 1) : Nat) : Int) ≤ ((cw : Nat) : Int)))]) (vs := [.bool (decide ((((cntL l x3.who k + 1) : Nat) : Int) ≤ ((cw : Nat) : Int)))]) (E := 4) rfl (fun w => by first | (go_simp; done) | (go_simp; rfl))) (by rintro _ _ ⟨b5, rfl, rfl⟩; exact ⟨⟨b5, rfl⟩, rfl⟩)) ?_
    rintro _ ⟨b5, rfl⟩
    refine Gw.chg rfl rfl rfl rfl rfl IsS (Eff.mono (eff_push (r := (decide (((cntL l x3.who k + 1 : Nat) : Int) ≤ ((cw : Nat) : Int)))) rfl Try.eB FB_len FB_one rfl rfl (k := 0) rfl rfl (k' := 1) rfl (by omega) (by omega)) (fun _ _ h => ⟨h.1, congrArg sep h.2⟩)) ?_
    intro v6 hiv6
    refine Gw.done ?_
    refine Gx.norm (l' := [Hp.rec_ b4 [.int .i64 x3.kind, .int .i64 ((x3.who : Nat) : Int), .int .i64 x3.src], Hp.own FB 1 v6 ((inB l c k) ++ [(decide (((cntL l x3.who k + 1 : Nat) : Int) ≤ ((cw : Nat) : Int)))]), Hp.own FN 1 v1 (((fullC n l k)).set x3.who (cntL l x3.who k + 1))]) rfl ?_
    refine Gx.val rfl rfl rfl (val_assign rfl rfl) ?_
    refine Gx.done ?_
    refine Gx.blkN ?_
    refine Gx.thenN ?_
    refine Gx.region ?_
    refine Gx.val rfl rfl rfl (val_add rfl rfl rfl (r := ((k + 1 : Nat) : Int)) (w64 (by omega) (by omega))) ?_
    refine Gx.val rfl rfl rfl (val_move rfl rfl) ?_
    refine Gx.done ?_
    refine Gx.thenN ?_
    refine Gx.drop 0 rfl ?_
    refine Gx.norm (l' := [Hp.own FB 1 v6 (inB l c (k + 1)), Hp.own FN 1 v1 (fullC n l (k + 1))]) (by rw [inB_succ hx3, full_succ hx3, getD_of hcw, show decide (cntL l x3.who k + 1 ≤ cw) = decide (((cntL l x3.who k + 1 : Nat) : Int) ≤ ((cw : Nat) : Int)) from decide_eq_decide.2 (by omega)] <;> rfl) ?_
    exact Gx.round (k + 1, v6) ⟨by first | omega | (dsimp only; omega), hiv6⟩ (by first | omega | (dsimp only; omega)) ((.cons rfl (.cons rfl (.cons rfl (.cons rfl (.cons rfl (.cons rfl (.cons rfl .nil)))))))) rfl
  · refine Gx.exit ?_
    refine Gx.thenE ?_
    refine Gx.thenE ?_
    refine Gx.blkE ?_
    refine Gx.thenN ?_
    refine Gx.seq ?_
    refine Gx.region ?_
    refine Gx.val rfl rfl rfl (val_move rfl rfl) ?_
    refine Gx.val rfl rfl rfl (val_assign rfl rfl) ?_
    refine Gx.done ?_
    refine Gx.thenN ?_
    refine Gx.ret ?_
    obtain rfl : k = l.length := by omega
    refine Gx.drop 1 rfl ?_
    refine Gx.ret1 Try.results26 rfl ?_
    exact ⟨lv, rfl, rfl, hil⟩

theorem refwhole_any {W : World} {n : Nat} {l : List En} {c : List Nat} {hv cv : Value} (hok : OkC n l) (hcut : Cut n l c) (hs : SlS FEn 3 W hv l) (hc : SlS FN 1 W cv c) :
    Calls Try.prog 15 #[hv, cv] W fun e w' => ∃ v, e = .returned v ∧ (∃ b : Bool, v = .bool b ∧ (b = true ↔ Whole l c)) ∧ Below W.heap.size W w' := by
  have hfew := hok.few
  have h1n := hok.low
  have h6n := hok.high
  have hcl0 := hcut.len
  refine calls_rel (R := fun v => ∃ b : Bool, v = .bool b ∧ (b = true ↔ Whole l c)) (Gx.enter (l := []) Try.func15 rfl Try.ntmps15 rfl (Sat.start W) ?_)
  refine Gx.know (m' := [(0, hv), (1, cv)]) (.cons rfl (.cons rfl .nil)) ?_
  refine Gx.seq ?_
  refine Gx.region ?_
  refine Gx.val rfl rfl rfl (val_assign rfl rfl) ?_
  refine Gx.done ?_
  refine Gx.thenN ?_
  refine Gx.seq ?_
  refine Gx.region ?_
  refine Gx.val rfl rfl rfl (val_move rfl rfl) ?_
  refine Gx.val rfl rfl rfl (val_move rfl rfl) ?_
  refine Gx.eff rfl rfl rfl (eff_callN (vs := [hv, cv]) rfl Try.fn26 rfl (fun w H => in_any hok hcut (hs.below H.below) (hc.below H.below))) ?_
  rintro u _ ⟨_, ⟨_, rfl, rfl, hiu⟩, rfl⟩
  refine Gx.norm (l' := [Hp.own FB 1 u (inB l c l.length)]) rfl ?_
  refine Gx.val rfl rfl rfl (val_assign rfl rfl) ?_
  refine Gx.done ?_
  refine Gx.thenN ?_
  refine Gx.seq ?_
  refine Gx.seq ?_
  refine Gx.region ?_
  refine Gx.val rfl rfl rfl (val_move rfl rfl) ?_
  refine Gx.val rfl rfl rfl (val_len rfl Try.underlying22 rfl (len_base hs)) ?_
  refine Gx.val rfl rfl rfl (val_move rfl rfl) ?_
  refine Gx.done ?_
  refine Gx.thenN ?_
  refine Gx.block ?_
  refine Gx.loop (ι := Nat) (fun ξ => (ξ ≤ l.length) ∧ (∀ (i : Nat) (e : En), i < ξ → l[i]? = some e → e.kind = 3 → inC l c i → inC l c e.src.toNat)) (fun ξ => [(5, u), (11, hv), (12, .int .i64 ((l.length : Nat) : Int)), (13, .int .i64 ((ξ : Nat) : Int))]) (fun ξ => [Hp.own FB 1 u (inB l c l.length)]) (fun ξ => l.length - ξ) 0 ⟨by first | omega | (dsimp only; omega), fun i e h => by omega⟩ ((.cons rfl (.cons rfl (.cons rfl (.cons rfl .nil))))) rfl ?_
  rintro k ⟨hk, hn⟩
  refine Gx.know (m' := [(5, u), (11, hv), (12, .int .i64 ((l.length : Nat) : Int)), (13, .int .i64 ((k : Nat) : Int))]) (.cons rfl (.cons rfl (.cons rfl (.cons rfl .nil)))) (Gx.norm (l' := [Hp.own FB 1 u (inB l c l.length)]) rfl ?_)
  refine Gx.seq ?_
  refine Gx.region ?_
  refine Gx.val rfl rfl rfl (val_lss rfl rfl rfl) ?_
  refine Gx.done ?_
  refine Gx.thenN ?_
  refine Gx.seq ?_
  refine Gx.dec rfl (fun h1 => ?_) (fun h1 => ?_)
  · refine Gx.skip ?_
    refine Gx.thenN ?_
    refine Gx.seq ?_
    refine Gx.block ?_
    refine Gx.seq ?_
    refine Gx.region ?_
    refine Gx.val rfl rfl rfl (val_move rfl rfl) ?_
    obtain ⟨x2, hx2⟩ := get_of_lt (xs := l) (k := k) (by omega)
    refine Gx.val rfl rfl rfl (val_ixa rfl Try.underlying22 Try.ty36 rfl rfl (j := k) (rfl) (reach_base hs hx2)) ?_
    refine Gx.val rfl rfl rfl (Val.cast (val_loadA rfl Try.ty36 rfl rfl rfl (cells_base hs hx2)) (v' := .agg #[.int .i64 x2.kind, .int .i64 ((x2.who : Nat) : Int), .int .i64 x2.src]) rfl) ?_
    refine Gx.eff rfl rfl rfl (eff_alloc rfl Try.ty36 (vs := [.int .i64 0, .int .i64 0, .int .i64 0]) rfl) ?_
    rintro _ _ ⟨b3, rfl, rfl⟩
    refine Gx.val rfl rfl rfl (val_assign rfl rfl) ?_
    refine Gx.eff0 rfl rfl (eff_store rfl Try.ty36 rfl rfl (us := [.int .i64 x2.kind, .int .i64 ((x2.who : Nat) : Int), .int .i64 x2.src]) rfl rfl rfl (k := 0) rfl (rfl) (vs' := [.int .i64 x2.kind, .int .i64 ((x2.who : Nat) : Int), .int .i64 x2.src]) (rfl) (l' := [Hp.rec_ b3 [.int .i64 x2.kind, .int .i64 ((x2.who : Nat) : Int), .int .i64 x2.src], Hp.own FB 1 u (inB l c l.length)]) rfl) ?_
    rintro _ _ rfl
    refine Gx.done ?_
    refine Gx.thenN ?_
    refine Gx.seq ?_
    refine Gx.region ?_
    have hall := hok.all _ _ hx2
    refine Gx.val rfl rfl rfl (val_move rfl rfl) ?_
    refine Gx.val rfl rfl rfl (val_move rfl rfl) ?_
    refine Gx.val rfl rfl rfl (val_ixa rfl Try.underlying50 Try.ty4 rfl rfl (j := k) (rfl) (reach_own (k := 1) rfl (inB_get hx2 (by omega)))) ?_
    refine Gx.val rfl rfl rfl (val_load rfl Try.ty4 rfl rfl (cell_own (i := 0) (k := 1) rfl (inB_get hx2 (by omega)) rfl)) ?_
    refine Gx.val rfl rfl rfl (val_move rfl rfl) ?_
    refine Gx.casesB (t := 22) rfl (fun h4 => ?_) (fun h4 => ?_)
    · refine Gx.valg rfl rfl rfl rfl rfl (Val.cast (val_fieldAddr rfl Try.underlying36 rfl Try.ty3 rfl rfl) (v' := ptr b3 0) rfl) ?_
      refine Gx.valg rfl rfl rfl rfl rfl (val_load rfl Try.ty3 rfl rfl (cell_rec (k := 0) rfl rfl)) ?_
      refine Gx.valg rfl rfl rfl rfl rfl (val_eql rfl rfl rfl) ?_
      refine Gx.val rfl rfl rfl (val_pickT rfl rfl rfl) ?_
      refine Gx.val rfl rfl rfl (val_move rfl rfl) ?_
      refine Gx.cases (t := 27) rfl (fun h5 => ?_) (fun h5 => ?_)
      · obtain ⟨hs0, hs1, s, hsr⟩ := hall.2.2 (by omega)
        have hs2 := (List.getElem?_eq_some_iff.1 hsr).1
        refine Gx.valg rfl rfl rfl rfl rfl (val_move rfl rfl) ?_
        refine Gx.valg rfl rfl rfl rfl rfl (Val.cast (val_fieldAddr rfl Try.underlying36 rfl Try.ty3 rfl rfl) (v' := ptr b3 2) rfl) ?_
        refine Gx.valg rfl rfl rfl rfl rfl (val_load rfl Try.ty3 rfl rfl (cell_rec (k := 0) rfl rfl)) ?_
        refine Gx.valg rfl rfl rfl rfl rfl (val_ixa rfl Try.underlying50 Try.ty4 rfl rfl (j := x2.src.toNat) (by omega) (reach_own (k := 1) rfl (inB_get hsr hs2))) ?_
        refine Gx.valg rfl rfl rfl rfl rfl (val_load rfl Try.ty4 rfl rfl (cell_own (i := 0) (k := 1) rfl (inB_get hsr hs2) rfl)) ?_
        refine Gx.valg rfl rfl rfl rfl rfl (val_not rfl rfl) ?_
        refine Gx.val rfl rfl rfl (val_pickT rfl rfl rfl) ?_
        refine Gx.done ?_
        refine Gx.thenN ?_
        refine Gx.bool rfl (fun h6 => ?_) (fun h6 => ?_)
        · refine Gx.seq ?_
          refine Gx.region ?_
          refine Gx.val rfl rfl rfl (val_assign rfl rfl) ?_
          refine Gx.done ?_
          refine Gx.thenN ?_
          refine Gx.ret ?_
          refine Gx.blkR ?_
          refine Gx.thenR ?_
          refine Gx.thenR ?_
          refine Gx.blkR ?_
          refine Gx.thenR ?_
          refine Gx.ret1 Try.results15 rfl ?_
          refine ⟨false, rfl, ⟨fun h => (by cases h), fun h => ?_⟩⟩
          exfalso
          obtain ⟨e8, he8, q8⟩ := h k _ hx2 (by simp at *; omega) ⟨_, hx2, by simp at *; omega⟩
          cases hsr.symm.trans he8
          simp at *; omega
        · refine Gx.skip ?_
          refine Gx.blkN ?_
          refine Gx.thenN ?_
          have hstep : x2.kind = 3 → inC l c k → inC l c x2.src.toNat := by
            intro q1 ⟨e9, he9, q2⟩
            cases hx2.symm.trans he9
            first
            | (exfalso; simp at *; omega)
            | (exact ⟨s, hsr, by simp at *; omega⟩)
          refine Gx.region ?_
          refine Gx.val rfl rfl rfl (val_add rfl rfl rfl (r := ((k + 1 : Nat) : Int)) (w64 (by omega) (by omega))) ?_
          refine Gx.val rfl rfl rfl (val_move rfl rfl) ?_
          refine Gx.done ?_
          refine Gx.thenN ?_
          refine Gx.drop 0 rfl ?_
          exact Gx.round (k + 1) ⟨by first | omega | (dsimp only; omega), fun i e hi he hk hin => by
              rcases Nat.lt_or_eq_of_le (Nat.le_of_lt_succ hi) with h | rfl
              · exact hn i e h he hk hin
              · cases hx2.symm.trans he; exact hstep hk hin⟩ (by first | omega | (dsimp only; omega)) ((.cons rfl (.cons rfl (.cons rfl (.cons rfl .nil))))) rfl
      · refine Gx.skipg rfl rfl rfl rfl rfl rfl ?_
        refine Gx.skipg rfl rfl rfl rfl rfl rfl ?_
        refine Gx.skipg rfl rfl rfl rfl rfl rfl ?_
        refine Gx.skipg rfl rfl rfl rfl rfl rfl ?_
        refine Gx.skipg rfl rfl rfl rfl rfl rfl ?_
        refine Gx.skipg rfl rfl rfl rfl rfl rfl ?_
        refine Gx.val rfl rfl rfl (val_pickF rfl rfl rfl) ?_
        refine Gx.done ?_
        refine Gx.thenN ?_
        refine Gx.f rfl ?_
        refine Gx.skip ?_
        refine Gx.blkN ?_
        refine Gx.thenN ?_
        have hstep : x2.kind = 3 → inC l c k → inC l c x2.src.toNat := by
          intro q1 ⟨e9, he9, q2⟩
          cases hx2.symm.trans he9
          first
          | (exfalso; simp at *; omega)
          | (exact ⟨s, hsr, by simp at *; omega⟩)
        refine Gx.region ?_
        refine Gx.val rfl rfl rfl (val_add rfl rfl rfl (r := ((k + 1 : Nat) : Int)) (w64 (by omega) (by omega))) ?_
        refine Gx.val rfl rfl rfl (val_move rfl rfl) ?_
        refine Gx.done ?_
        refine Gx.thenN ?_
        refine Gx.drop 0 rfl ?_
        exact Gx.round (k + 1) ⟨by first | omega | (dsimp only; omega), fun i e hi he hk hin => by
            rcases Nat.lt_or_eq_of_le (Nat.le_of_lt_succ hi) with h | rfl
            · exact hn i e h he hk hin
            · cases hx2.symm.trans he; exact hstep hk hin⟩ (by first | omega | (dsimp only; omega)) ((.cons rfl (.cons rfl (.cons rfl (.cons rfl .nil))))) rfl
    · refine Gx.skipg rfl rfl rfl rfl rfl rfl ?_
      refine Gx.skipg rfl rfl rfl rfl rfl rfl ?_
      refine Gx.skipg rfl rfl rfl rfl rfl rfl ?_
      refine Gx.val rfl rfl rfl (val_pickF rfl rfl rfl) ?_
      refine Gx.val rfl rfl rfl (val_move rfl rfl) ?_
      refine Gx.skipg rfl rfl rfl rfl rfl rfl ?_
      refine Gx.skipg rfl rfl rfl rfl rfl rfl ?_
      refine Gx.skipg rfl rfl rfl rfl rfl rfl ?_
      refine Gx.skipg rfl rfl rfl rfl rfl rfl ?_
      refine Gx.skipg rfl rfl rfl rfl rfl rfl ?_
      refine Gx.skipg rfl rfl rfl rfl rfl rfl ?_
      refine Gx.val rfl rfl rfl (val_pickF rfl rfl rfl) ?_
      refine Gx.done ?_
      refine Gx.thenN ?_
      refine Gx.f rfl ?_
      refine Gx.skip ?_
      refine Gx.blkN ?_
      refine Gx.thenN ?_
      have hstep : x2.kind = 3 → inC l c k → inC l c x2.src.toNat := by
        intro q1 ⟨e9, he9, q2⟩
        cases hx2.symm.trans he9
        first
        | (exfalso; simp at *; omega)
        | (exact ⟨s, hsr, by simp at *; omega⟩)
      refine Gx.region ?_
      refine Gx.val rfl rfl rfl (val_add rfl rfl rfl (r := ((k + 1 : Nat) : Int)) (w64 (by omega) (by omega))) ?_
      refine Gx.val rfl rfl rfl (val_move rfl rfl) ?_
      refine Gx.done ?_
      refine Gx.thenN ?_
      refine Gx.drop 0 rfl ?_
      exact Gx.round (k + 1) ⟨by first | omega | (dsimp only; omega), fun i e hi he hk hin => by
          rcases Nat.lt_or_eq_of_le (Nat.le_of_lt_succ hi) with h | rfl
          · exact hn i e h he hk hin
          · cases hx2.symm.trans he; exact hstep hk hin⟩ (by first | omega | (dsimp only; omega)) ((.cons rfl (.cons rfl (.cons rfl (.cons rfl .nil))))) rfl
  · refine Gx.exit ?_
    refine Gx.thenE ?_
    refine Gx.thenE ?_
    refine Gx.blkE ?_
    refine Gx.thenN ?_
    refine Gx.seq ?_
    refine Gx.region ?_
    refine Gx.val rfl rfl rfl (val_assign rfl rfl) ?_
    refine Gx.done ?_
    refine Gx.thenN ?_
    refine Gx.ret ?_
    refine Gx.ret1 Try.results15 rfl ?_
    exact ⟨true, rfl, fun _ i e he => hn i e (by have := (List.getElem?_eq_some_iff.1 he).1; omega) he, fun _ => rfl⟩

end Go.Proofs.Ytffnjojdjbdfcaa
