/- None, and all. The walk. No condition. -/
import Derived.Test.YtffnjojdjbdfcaaA8
import Derived.Test.YtffnjojdjbdfcaaB1
namespace Go.Proofs.Ytffnjojdjbdfcaa
open Go.RowKit
set_option linter.unusedVariables false
set_option linter.unusedSimpArgs false
set_option maxRecDepth 100000

abbrev FV1 (v : Value) : List Value := [v]
theorem rec_sls1 {W w : World} {b : Nat} {xs : List Value} {R : Hp} (H : Sat W w (Hp.rec_ b xs * R)) (hm : xs.length ≤ 1000) : SlS FV1 1 w (.slice (some ⟨b, 0, none⟩) xs.length xs.length) xs := by
  have hr := H.rec_
  refine ⟨some ⟨b, 0, none⟩, xs.length, rfl, by omega, ⟨(fun h => by cases h), Nat.le_refl _⟩, fun j x hx => ⟨b, 0, rfl, hr.1, fun i u hu => ?_⟩⟩
  cases i with
  | zero => simp at hu; subst hu; have := H.cell j hx; simpa using this
  | succ i => simp at hu
theorem ends_no {W : World} {n : Int} {r : List Ev} {hv : Value} (hE : ¬ OkE n r) (hs : SlS FE 3 W hv r) :
    Calls Try.prog 6 #[.int .i64 n, hv] W fun e w' => e = .returned (.bool true) ∧ Below W.heap.size W w' := by
  refine calls_pure (Gx.enter (l := []) Try.func6 rfl Try.ntmps6 rfl (Sat.start W) ?_)
  refine Gx.know (m' := [(0, .int .i64 n), (1, hv)]) (.cons rfl (.cons rfl .nil)) ?_
  refine Gx.seq ?_
  refine Gx.region ?_
  refine Gx.val rfl rfl rfl (val_assign rfl rfl) ?_
  refine Gx.done ?_
  refine Gx.thenN ?_
  refine Gx.seq ?_
  refine Gx.seq ?_
  refine Gx.region ?_
  refine Gx.val rfl rfl rfl (val_move rfl rfl) ?_
  refine Gx.val rfl rfl rfl (val_move rfl rfl) ?_
  refine Gx.val rfl rfl rfl (val_call (vs := [.int .i64 n, hv]) rfl Try.fn8 rfl (fun w H => events_no hE (hs.below H.below))) ?_
  refine Gx.val rfl rfl rfl (Val.cast (val_not rfl rfl) (v' := .bool true) rfl) ?_
  refine Gx.done ?_
  refine Gx.thenN ?_
  refine Gx.t rfl ?_
  refine Gx.seq ?_
  refine Gx.region ?_
  refine Gx.val rfl rfl rfl (val_move rfl rfl) ?_
  refine Gx.val rfl rfl rfl (val_move rfl rfl) ?_
  refine Gx.eff rfl rfl rfl (eff_makeSlice (n := 3) (f := FN) rfl Try.underlying23 Try.ty3 rfl rfl (rfl) (rfl) FN_len 0 rfl (by omega) (by omega)) ?_
  rintro v1 _ ⟨hiv1, rfl⟩
  refine Gx.eff rfl rfl rfl (eff_callE (vs := [.int .i64 n, hv, v1]) rfl Try.fn10 rfl (R := fun v => ∃ z : Int, v = .tuple #[.bool false, .int .i64 z] ∧ z ≠ 0) (fun w H => whole_bad (fun h => by obtain ⟨_, _, _, _, _, h3, _⟩ := h; exact hE h3) (hs.below H.below) (sls_nat.1 ((H.at_ (k := 0) rfl).sls (by first | omega | (rw [near_len (by omega)]; omega) | (rw [full_len]; omega) | (rw [List.length_set]; omega) | (simp <;> omega)))))) ?_
  rintro _ _ ⟨⟨z, rfl, hz⟩, rfl⟩
  refine Gx.val rfl rfl rfl (val_move rfl rfl) ?_
  refine Gx.val rfl rfl rfl (val_extract rfl rfl rfl) ?_
  refine Gx.val rfl rfl rfl (val_extract rfl rfl rfl) ?_
  refine Gx.val rfl rfl rfl (val_assign rfl rfl) ?_
  refine Gx.val rfl rfl rfl (val_assign rfl rfl) ?_
  refine Gx.done ?_
  refine Gx.thenN ?_
  refine Gx.seq ?_
  refine Gx.region ?_
  refine Gx.val rfl rfl rfl (val_move rfl rfl) ?_
  refine Gx.val rfl rfl rfl (val_neq rfl rfl rfl) ?_
  refine Gx.val rfl rfl rfl (val_assign rfl rfl) ?_
  refine Gx.done ?_
  refine Gx.thenN ?_
  refine Gx.ret ?_
  refine Gx.thenR ?_
  refine Gx.ret1 Try.results6 rfl ?_
  exact congrArg Value.bool (decide_eq_true (by assumption))

theorem ends_yes {W : World} {n : Nat} {l : List En} {hv : Value} (hE : OkE (n : Int) (l.map En.raw)) (hok : OkC n l) (hs : SlS FEn 3 W hv l) :
    Calls Try.prog 6 #[.int .i64 ((n : Nat) : Int), hv] W fun e w' => e = .returned (.bool true) ∧ Below W.heap.size W w' := by
  have h1n := hok.low
  have h6n := hok.high
  have hfew := hok.few
  refine calls_pure (Gx.enter (l := []) Try.func6 rfl Try.ntmps6 rfl (Sat.start W) ?_)
  refine Gx.know (m' := [(0, .int .i64 ((n : Nat) : Int)), (1, hv)]) (.cons rfl (.cons rfl .nil)) ?_
  refine Gx.seq ?_
  refine Gx.region ?_
  refine Gx.val rfl rfl rfl (val_assign rfl rfl) ?_
  refine Gx.done ?_
  refine Gx.thenN ?_
  refine Gx.seq ?_
  refine Gx.seq ?_
  refine Gx.region ?_
  refine Gx.val rfl rfl rfl (val_move rfl rfl) ?_
  refine Gx.val rfl rfl rfl (val_move rfl rfl) ?_
  refine Gx.val rfl rfl rfl (val_call (vs := [.int .i64 ((n : Nat) : Int), hv]) rfl Try.fn8 rfl (fun w H => events_ok hE (sls_raw.2 (hs.below H.below)))) ?_
  refine Gx.val rfl rfl rfl (Val.cast (val_not rfl rfl) (v' := .bool false) rfl) ?_
  refine Gx.done ?_
  refine Gx.thenN ?_
  refine Gx.f rfl ?_
  refine Gx.skip ?_
  refine Gx.thenN ?_
  refine Gx.seq ?_
  refine Gx.region ?_
  refine Gx.val rfl rfl rfl (val_move rfl rfl) ?_
  refine Gx.eff rfl rfl rfl (eff_makeSlice (n := n) (f := FN) rfl Try.underlying23 Try.ty3 rfl rfl (rfl) (rfl) FN_len 0 rfl (by omega) (by omega)) ?_
  rintro v1 _ ⟨hiv1, rfl⟩
  refine Gx.val rfl rfl rfl (val_assign rfl rfl) ?_
  refine Gx.done ?_
  refine Gx.thenN ?_
  refine Gx.seq ?_
  refine Gx.seq ?_
  refine Gx.norm (l' := [Hp.own FN 1 v1 (fullC n l 0)]) (by rw [full_zero] <;> rfl) ?_
  refine Gx.region ?_
  refine Gx.val rfl rfl rfl (val_move rfl rfl) ?_
  refine Gx.val rfl rfl rfl (val_len rfl Try.underlying22 rfl (len_base hs)) ?_
  refine Gx.val rfl rfl rfl (val_move rfl rfl) ?_
  refine Gx.done ?_
  refine Gx.thenN ?_
  refine Gx.block ?_
  refine Gx.loop (ι := Nat) (fun ξ => (ξ ≤ l.length)) (fun ξ => [(0, .int .i64 ((n : Nat) : Int)), (1, hv), (7, v1), (33, hv), (34, .int .i64 ((l.length : Nat) : Int)), (35, .int .i64 ((ξ : Nat) : Int))]) (fun ξ => [Hp.own FN 1 v1 (fullC n l ξ)]) (fun ξ => l.length - ξ) 0 (by first | omega | (dsimp only; omega)) ((.cons rfl (.cons rfl (.cons rfl (.cons rfl (.cons rfl (.cons rfl .nil))))))) rfl ?_
  rintro k hk
  refine Gx.know (m' := [(0, .int .i64 ((n : Nat) : Int)), (1, hv), (7, v1), (33, hv), (34, .int .i64 ((l.length : Nat) : Int)), (35, .int .i64 ((k : Nat) : Int))]) (.cons rfl (.cons rfl (.cons rfl (.cons rfl (.cons rfl (.cons rfl .nil)))))) (Gx.norm (l' := [Hp.own FN 1 v1 (fullC n l k)]) rfl ?_)
  have hnl := full_len n l k
  refine Gx.seq ?_
  refine Gx.region ?_
  refine Gx.val rfl rfl rfl (val_lss rfl rfl rfl) ?_
  refine Gx.done ?_
  refine Gx.thenN ?_
  refine Gx.seq ?_
  refine Gx.dec rfl (fun h2 => ?_) (fun h2 => ?_)
  · refine Gx.skip ?_
    refine Gx.thenN ?_
    refine Gx.seq ?_
    refine Gx.block ?_
    refine Gx.seq ?_
    refine Gx.region ?_
    obtain ⟨x3, hx3⟩ := get_of_lt (xs := l) (k := k) (by omega)
    refine Gx.val rfl rfl rfl (val_ixa rfl Try.underlying22 Try.ty36 rfl rfl (j := k) (rfl) (reach_base hs hx3)) ?_
    refine Gx.val rfl rfl rfl (Val.cast (val_loadA rfl Try.ty36 rfl rfl rfl (cells_base hs hx3)) (v' := .agg #[.int .i64 x3.kind, .int .i64 ((x3.who : Nat) : Int), .int .i64 x3.src]) rfl) ?_
    refine Gx.eff rfl rfl rfl (eff_alloc rfl Try.ty36 (vs := [.int .i64 0, .int .i64 0, .int .i64 0]) rfl) ?_
    rintro _ _ ⟨b4, rfl, rfl⟩
    refine Gx.eff0 rfl rfl (eff_store rfl Try.ty36 rfl rfl (us := [.int .i64 x3.kind, .int .i64 ((x3.who : Nat) : Int), .int .i64 x3.src]) rfl rfl rfl (k := 0) rfl (rfl) (vs' := [.int .i64 x3.kind, .int .i64 ((x3.who : Nat) : Int), .int .i64 x3.src]) (rfl) (l' := [Hp.rec_ b4 [.int .i64 x3.kind, .int .i64 ((x3.who : Nat) : Int), .int .i64 x3.src], Hp.own FN 1 v1 (fullC n l k)]) rfl) ?_
    rintro _ _ rfl
    refine Gx.done ?_
    refine Gx.thenN ?_
    have hw := (hok.all _ _ hx3).2.1
    have hcl := cnt_le l x3.who k
    refine Gx.regionO (fun j => false) 10 [0, 1, 2, 3, 4, 5, 6, 7, 8, 9] (fun _ => [Hp.rec_ b4 [.int .i64 x3.kind, .int .i64 ((x3.who : Nat) : Int), .int .i64 x3.src], Hp.own FN 1 v1 (fullC n l k)]) Try.mixed (by kernel_rfl) rfl ?_
    refine Gw.val rfl rfl rfl rfl rfl (fun us => val_move rfl rfl) ?_
    refine Gw.val rfl rfl rfl rfl rfl (fun us => Val.cast (val_fieldAddr rfl Try.underlying36 rfl Try.ty3 rfl rfl) (v' := ptr b4 1) rfl) ?_
    refine Gw.val0 rfl rfl rfl (by kernel_rfl) rfl rfl (val_load rfl Try.ty3 rfl rfl (cell_rec (k := 0) rfl rfl)) ?_
    refine Gw.val rfl rfl rfl rfl rfl (fun us => val_move rfl rfl) ?_
    refine Gw.val rfl rfl rfl rfl rfl (fun us => Val.cast (val_fieldAddr rfl Try.underlying36 rfl Try.ty3 rfl rfl) (v' := ptr b4 1) rfl) ?_
    refine Gw.val0 rfl rfl rfl (by kernel_rfl) rfl rfl (val_load rfl Try.ty3 rfl rfl (cell_rec (k := 0) rfl rfl)) ?_
    refine Gw.val0 rfl rfl rfl (by kernel_rfl) rfl rfl (val_ixa rfl Try.underlying23 Try.ty3 rfl rfl (j := x3.who) (rfl) (reach_own (k := 1) rfl (full_get hw))) ?_
    refine Gw.val0 rfl rfl rfl (by kernel_rfl) rfl rfl (val_load rfl Try.ty3 rfl rfl (cell_own (i := 0) (k := 1) rfl (full_get hw) rfl)) ?_
    refine Gw.val rfl rfl rfl rfl rfl (fun us => val_add rfl rfl rfl (r := (((cntL l x3.who k) + 1 : Nat) : Int)) (w64 (by omega) (by omega))) ?_
    refine Gw.val0 rfl rfl rfl (by kernel_rfl) rfl rfl (val_ixa rfl Try.underlying23 Try.ty3 rfl rfl (j := x3.who) (rfl) (reach_own (k := 1) rfl (full_get hw))) ?_
    refine Gw.done ?_
    refine Gx.norm (l' := [Hp.rec_ b4 [.int .i64 x3.kind, .int .i64 ((x3.who : Nat) : Int), .int .i64 x3.src], Hp.own FN 1 v1 (fullC n l k)]) rfl ?_
    refine Gx.eff0 rfl rfl (eff_storeElA (cntL l x3.who k + 1) rfl Try.ty3 rfl rfl rfl FN_one (k := 1) rfl FN_len (full_get hw) (l' := [Hp.rec_ b4 [.int .i64 x3.kind, .int .i64 ((x3.who : Nat) : Int), .int .i64 x3.src], Hp.own FN 1 v1 (((fullC n l k)).set x3.who (cntL l x3.who k + 1))]) rfl) ?_
    rintro _ _ rfl
    refine Gx.done ?_
    refine Gx.blkN ?_
    refine Gx.thenN ?_
    refine Gx.region ?_
    refine Gx.val rfl rfl rfl (val_add rfl rfl rfl (r := ((k + 1 : Nat) : Int)) (w64 (by omega) (by omega))) ?_
    refine Gx.val rfl rfl rfl (val_move rfl rfl) ?_
    refine Gx.done ?_
    refine Gx.thenN ?_
    refine Gx.drop 0 rfl ?_
    refine Gx.norm (l' := [Hp.own FN 1 v1 (fullC n l (k + 1))]) (by rw [full_succ hx3] <;> rfl) ?_
    exact Gx.round (k + 1) (by first | omega | (dsimp only; omega)) (by first | omega | (dsimp only; omega)) ((.cons rfl (.cons rfl (.cons rfl (.cons rfl (.cons rfl (.cons rfl .nil))))))) rfl
  · refine Gx.exit ?_
    refine Gx.thenE ?_
    refine Gx.thenE ?_
    refine Gx.blkE ?_
    refine Gx.thenN ?_
    refine Gx.seq ?_
    refine Gx.seq ?_
    obtain rfl : k = l.length := by omega
    refine Gx.norm (l' := [Hp.own FN 1 v1 (fullC n l l.length)]) rfl ?_
    refine Gx.region ?_
    refine Gx.val rfl rfl rfl (val_move rfl rfl) ?_
    refine Gx.eff rfl rfl rfl (eff_makeSlice (n := n) (f := FN) rfl Try.underlying23 Try.ty3 rfl rfl (rfl) (rfl) FN_len 0 rfl (by omega) (by omega)) ?_
    rintro v5 _ ⟨hiv5, rfl⟩
    refine Gx.val rfl rfl rfl (val_move rfl rfl) ?_
    refine Gx.eff rfl rfl rfl (eff_buildSlice rfl (qs := [(0, v5), (1, v1)]) rfl rfl (cs := #[v5, v1]) (vs := [v5, v1]) (E := 23) rfl (fun w => by obtain ⟨_, _, _, rfl⟩ := hiv5; obtain ⟨_, _, _, rfl⟩ := hiv1; first | (go_simp; done) | (go_simp; rfl))) ?_
    rintro _ _ ⟨b6, rfl, rfl⟩
    have hfl := full_len n l l.length
    refine Gx.rebase [] (fun W9 H9 => ?_)
    have hbs : SlS FV1 1 W9 (.slice (some ⟨b6, 0, none⟩) 2 2) [v5, v1] := rec_sls1 (xs := [v5, v1]) (H9.at_ (k := 0) rfl) (by simp)
    have H9' := (H9.at_ (k := 0) rfl).drop
    have hW7 := H9.below
    have hs9 := hs.below H9.below
    have hz9 := (H9.at_ (k := 1) rfl).sls (by simp; omega)
    have hf9 := (H9.at_ (k := 2) rfl).sls (by omega)
    have hrows : ∀ v ∈ [v5, v1], ∃ c, SlS FN 1 W9 v c ∧ Cut n l c ∧ Whole l c := by
      intro v hv
      simp only [List.mem_cons, List.not_mem_nil, or_false] at hv
      rcases hv with rfl | rfl
      · exact ⟨_, hz9, cut_zero n l, whole_zero n l⟩
      · exact ⟨_, hf9, cut_full n l, whole_full hok⟩
    refine Gx.val rfl rfl rfl (val_len rfl Try.underlying37 rfl (len_base hbs)) ?_
    refine Gx.val rfl rfl rfl (val_move rfl rfl) ?_
    refine Gx.done ?_
    refine Gx.thenN ?_
    refine Gx.block ?_
    refine Gx.loop (ι := Nat) (fun ξ => (ξ ≤ 2)) (fun ξ => [(0, .int .i64 ((n : Nat) : Int)), (1, hv), (53, .slice (some ⟨b6, 0, none⟩) 2 2), (54, .int .i64 ((([v5, v1]).length : Nat) : Int)), (55, .int .i64 ((ξ : Nat) : Int))]) (fun ξ => []) (fun ξ => 2 - ξ) 0 (by first | omega | (dsimp only; omega)) ((.cons rfl (.cons rfl (.cons rfl (.cons rfl (.cons rfl .nil)))))) rfl ?_
    rintro q hq
    refine Gx.know (m' := [(0, .int .i64 ((n : Nat) : Int)), (1, hv), (53, .slice (some ⟨b6, 0, none⟩) 2 2), (54, .int .i64 ((([v5, v1]).length : Nat) : Int)), (55, .int .i64 ((q : Nat) : Int))]) (.cons rfl (.cons rfl (.cons rfl (.cons rfl (.cons rfl .nil))))) (Gx.norm (l' := []) rfl ?_)
    have h2l : [v5, v1].length = 2 := rfl
    refine Gx.seq ?_
    refine Gx.region ?_
    refine Gx.val rfl rfl rfl (val_lss rfl rfl rfl) ?_
    refine Gx.done ?_
    refine Gx.thenN ?_
    refine Gx.seq ?_
    refine Gx.dec rfl (fun h8 => ?_) (fun h8 => ?_)
    · refine Gx.skip ?_
      refine Gx.thenN ?_
      refine Gx.seq ?_
      refine Gx.block ?_
      refine Gx.seq ?_
      refine Gx.region ?_
      obtain ⟨x9, hx9⟩ := get_of_lt (xs := [v5, v1]) (k := q) (by omega)
      refine Gx.val rfl rfl rfl (val_ixa rfl Try.underlying37 Try.ty23 rfl rfl (j := q) (rfl) (reach_base hbs hx9)) ?_
      refine Gx.val rfl rfl rfl (val_load rfl Try.ty23 rfl rfl (cell_base (i := 0) hbs hx9 rfl)) ?_
      have hxr := hrows _ (List.mem_of_getElem? hx9)
      obtain ⟨c, hxc, hcc, hcwh⟩ := hxr
      have hccl := hcc.len
      refine Gx.val rfl rfl rfl (val_assign rfl rfl) ?_
      refine Gx.done ?_
      refine Gx.thenN ?_
      refine Gx.seq ?_
      refine Gx.region ?_
      refine Gx.val rfl rfl rfl (val_move rfl rfl) ?_
      refine Gx.val rfl rfl rfl (val_move rfl rfl) ?_
      refine Gx.val rfl rfl rfl (val_move rfl rfl) ?_
      refine Gx.eff rfl rfl rfl (eff_callE (vs := [.int .i64 ((n : Nat) : Int), hv, x9]) rfl Try.fn10 rfl (R := fun v => ∃ t : Bool, v = .tuple #[.bool t, .int .i64 0] ∧ (t = true ↔ Whole l c)) (fun w H => whole_any hE hok (hcc) (hs9.below H.below) (hxc.below H.below))) ?_
      rintro _ _ ⟨⟨b10, rfl, hb10⟩, rfl⟩
      refine Gx.val rfl rfl rfl (val_move rfl rfl) ?_
      refine Gx.val rfl rfl rfl (val_extract rfl rfl rfl) ?_
      refine Gx.val rfl rfl rfl (val_extract rfl rfl rfl) ?_
      refine Gx.val rfl rfl rfl (val_assign rfl rfl) ?_
      refine Gx.val rfl rfl rfl (val_assign rfl rfl) ?_
      refine Gx.done ?_
      refine Gx.thenN ?_
      refine Gx.seq ?_
      refine Gx.region ?_
      refine Gx.val rfl rfl rfl (val_move rfl rfl) ?_
      refine Gx.val rfl rfl rfl (val_move rfl rfl) ?_
      refine Gx.val rfl rfl rfl (val_move rfl rfl) ?_
      refine Gx.eff rfl rfl rfl (eff_callN (vs := [.int .i64 ((n : Nat) : Int), hv, x9]) rfl Try.fn12 rfl (fun w H => grow_any hE hok (hcc) (hs9.below H.below) (hxc.below H.below))) ?_
      rintro _ _ ⟨_, ⟨u11, d12, rfl, rfl, hjd12, hwd12, hiu11⟩, rfl⟩
      refine Gx.norm (l' := [Hp.own FN 1 u11 d12]) rfl ?_
      have hnd12 : d12.length = n := hjd12.cut.len
      refine Gx.val rfl rfl rfl (val_move rfl rfl) ?_
      refine Gx.val rfl rfl rfl (val_extract rfl rfl rfl) ?_
      refine Gx.val rfl rfl rfl (val_extract rfl rfl rfl) ?_
      refine Gx.val rfl rfl rfl (val_assign rfl rfl) ?_
      refine Gx.val rfl rfl rfl (val_assign rfl rfl) ?_
      refine Gx.done ?_
      refine Gx.thenN ?_
      refine Gx.seq ?_
      refine Gx.region ?_
      refine Gx.val rfl rfl rfl (val_move rfl rfl) ?_
      refine Gx.val rfl rfl rfl (val_move rfl rfl) ?_
      refine Gx.val rfl rfl rfl (val_move rfl rfl) ?_
      refine Gx.eff rfl rfl rfl (eff_callN (vs := [.int .i64 ((n : Nat) : Int), hv, x9]) rfl Try.fn13 rfl (fun w H => shrink_any hE hok (hcc) (hs9.below H.below) (hxc.below H.below))) ?_
      rintro _ _ ⟨_, ⟨u13, d14, rfl, rfl, hjd14, hwd14, hiu13⟩, rfl⟩
      refine Gx.norm (l' := [Hp.own FN 1 u13 d14, Hp.own FN 1 u11 d12]) rfl ?_
      have hnd14 : d14.length = n := hjd14.cut.len
      refine Gx.val rfl rfl rfl (val_move rfl rfl) ?_
      refine Gx.val rfl rfl rfl (val_extract rfl rfl rfl) ?_
      refine Gx.val rfl rfl rfl (val_extract rfl rfl rfl) ?_
      refine Gx.val rfl rfl rfl (val_assign rfl rfl) ?_
      refine Gx.val rfl rfl rfl (val_assign rfl rfl) ?_
      refine Gx.done ?_
      refine Gx.thenN ?_
      refine Gx.seq ?_
      refine Gx.region ?_
      refine Gx.val rfl rfl rfl (val_move rfl rfl) ?_
      refine Gx.val rfl rfl rfl (Val.cast (val_neq rfl rfl rfl) (v' := .bool false) rfl) ?_
      refine Gx.val rfl rfl rfl (val_move rfl rfl) ?_
      refine Gx.valg rfl rfl rfl rfl rfl (val_move rfl rfl) ?_
      refine Gx.valg rfl rfl rfl rfl rfl (Val.cast (val_neq rfl rfl rfl) (v' := .bool false) rfl) ?_
      refine Gx.val rfl rfl rfl (val_pickF rfl rfl rfl) ?_
      refine Gx.val rfl rfl rfl (val_move rfl rfl) ?_
      refine Gx.valg rfl rfl rfl rfl rfl (val_move rfl rfl) ?_
      refine Gx.valg rfl rfl rfl rfl rfl (Val.cast (val_neq rfl rfl rfl) (v' := .bool false) rfl) ?_
      refine Gx.val rfl rfl rfl (val_pickF rfl rfl rfl) ?_
      refine Gx.val rfl rfl rfl (val_move rfl rfl) ?_
      refine Gx.valg rfl rfl rfl rfl rfl (val_move rfl rfl) ?_
      refine Gx.valg rfl rfl rfl rfl rfl (val_not rfl rfl) ?_
      refine Gx.val rfl rfl rfl (val_pickF rfl rfl rfl) ?_
      refine Gx.val rfl rfl rfl (val_move rfl rfl) ?_
      refine Gx.slot (t := 94) (v := .bool false) (look_boolF rfl ((by rw [hb10.2 hcwh]; rfl))) ?_
      refine Gx.valg rfl rfl rfl rfl rfl (val_move rfl rfl) ?_
      refine Gx.valg rfl rfl rfl rfl rfl (val_move rfl rfl) ?_
      refine Gx.valg rfl rfl rfl rfl rfl (val_call (vs := [u11, x9]) rfl Try.fn16 rfl (fun w H => ints_any ((H.at_ (k := 1) rfl).sls (by first | omega | (rw [near_len (by omega)]; omega) | (rw [full_len]; omega) | (rw [List.length_set]; omega) | (simp <;> omega))) (hxc.below H.below))) ?_
      refine Gx.valg rfl rfl rfl rfl rfl (val_notD rfl rfl) ?_
      refine Gx.val rfl rfl rfl (val_pickF rfl rfl rfl) ?_
      refine Gx.val rfl rfl rfl (val_move rfl rfl) ?_
      refine Gx.slot (t := 100) (v := .bool false) (look_decF rfl (fun q => q (hjd12.same hcc hcwh))) ?_
      refine Gx.valg rfl rfl rfl rfl rfl (val_move rfl rfl) ?_
      refine Gx.valg rfl rfl rfl rfl rfl (val_move rfl rfl) ?_
      refine Gx.valg rfl rfl rfl rfl rfl (val_call (vs := [u13, x9]) rfl Try.fn16 rfl (fun w H => ints_any ((H.at_ (k := 0) rfl).sls (by first | omega | (rw [near_len (by omega)]; omega) | (rw [full_len]; omega) | (rw [List.length_set]; omega) | (simp <;> omega))) (hxc.below H.below))) ?_
      refine Gx.valg rfl rfl rfl rfl rfl (val_notD rfl rfl) ?_
      refine Gx.val rfl rfl rfl (val_pickF rfl rfl rfl) ?_
      refine Gx.done ?_
      refine Gx.thenN ?_
      refine Gx.decF rfl (fun q => q (hjd14.same hcc hcwh)) ?_
      refine Gx.skip ?_
      refine Gx.blkN ?_
      refine Gx.thenN ?_
      refine Gx.region ?_
      refine Gx.val rfl rfl rfl (val_add rfl rfl rfl (r := ((q + 1 : Nat) : Int)) (w64 (by omega) (by omega))) ?_
      refine Gx.val rfl rfl rfl (val_move rfl rfl) ?_
      refine Gx.done ?_
      refine Gx.thenN ?_
      refine Gx.drop 1 rfl ?_
      refine Gx.drop 0 rfl ?_
      exact Gx.round (q + 1) (by first | omega | (dsimp only; omega)) (by first | omega | (dsimp only; omega)) ((.cons rfl (.cons rfl (.cons rfl (.cons rfl (.cons rfl .nil)))))) rfl
    · refine Gx.exit ?_
      refine Gx.thenE ?_
      refine Gx.thenE ?_
      refine Gx.blkE ?_
      refine Gx.thenN ?_
      refine Gx.seq ?_
      refine Gx.region ?_
      refine Gx.val rfl rfl rfl (val_assign rfl rfl) ?_
      refine Gx.done ?_
      refine Gx.thenN ?_
      refine Gx.ret ?_
      refine Gx.ret1B hW7 Try.results6 rfl ?_
      rfl

theorem ends_any {W : World} {n : Int} {r : List Ev} {hv : Value} (hs : SlS FE 3 W hv r) :
    Calls Try.prog 6 #[.int .i64 n, hv] W fun e w' => e = .returned (.bool true) ∧ Below W.heap.size W w' := by
  by_cases hE : OkE n r
  · obtain ⟨m, l, rfl, rfl, hE, hok⟩ := ok_of hE
    exact ends_yes hE hok (sls_raw.1 hs)
  · exact ends_no hE hs
end Go.Proofs.Ytffnjojdjbdfcaa
