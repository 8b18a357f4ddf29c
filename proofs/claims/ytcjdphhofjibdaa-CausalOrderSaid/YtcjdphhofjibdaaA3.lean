/- A message is heard; all that may be heard is heard. The walks. No condition. -/
import Derived.Test.YtcjdphhofjibdaaA2
namespace Go.Proofs.Ytcjdphhofjibdaa
open Go.RowKit
set_option linter.unusedVariables false
set_option linter.unusedSimpArgs false
set_option maxRecDepth 100000

theorem hear_of {all : List Ms} {p : Pt} {m : Nat} {a : Ms} (h : all[m]? = some a) : hear all p m = ⟨p.lst ++ [m], p.cnt.set a.frm (p.cnt.getD a.frm 0 + 1), p.cm, p.wts⟩ := by unfold hear; rw [h]
theorem stl_step {all : List Ms} {q : Pt} {m : Nat} (h : q.wts[fst (rdy all q.cnt) q.wts]? = some m) : stl all q.wts.length q = stl all (q.wts.eraseIdx (fst (rdy all q.cnt) q.wts)).length (hear all ⟨q.lst, q.cnt, q.cm, q.wts.eraseIdx (fst (rdy all q.cnt) q.wts)⟩ m) := by
  have hl := (List.getElem?_eq_some_iff.1 h).1
  have e : (q.wts.eraseIdx (fst (rdy all q.cnt) q.wts)).length + 1 = q.wts.length := by rw [List.length_eraseIdx, if_pos hl]; omega
  rw [← e, stl, h]
theorem stl_stop {all : List Ms} {q : Pt} (h : ¬ fst (rdy all q.cnt) q.wts < q.wts.length) : stl all q.wts.length q = q := by
  have h2 : q.wts[fst (rdy all q.cnt) q.wts]? = none := List.getElem?_eq_none (by omega)
  cases e : q.wts.length with
  | zero => rfl
  | succ k => rw [stl, h2]
theorem hear_any {W w : World} {S pb m mb : Nat} {av pv lv cv wv : Value} {mms : List Mm} {lst cnt : List Nat} {mm : Mm} {R : Hp} (hm : mms[m]? = some mm) (hf : mm.frm < cnt.length) (hcb : ∀ x ∈ cnt, x ≤ 100000) (hll : lst.length ≤ 100000) (hcl : cnt.length ≤ 1000) (hml : mms.length ≤ 100000) (hil : IsS lv) (hic : IsS cv)
    (H : Sat W w (Hp.rec_ S [av, pv] * (Hp.own FA 2 av mms * (Hp.rec_ pb [lv, cv, .map (some mb), wv] * (Hp.own FN 1 lv lst * (Hp.own FN 1 cv cnt * R)))))) :
    Calls Try.prog 17 #[ptr S 0, ptr pb 0, .int .i64 ((m : Nat) : Int)] w (Ret W fun v l => ∃ (lv' : Value) (x : Nat), IsS lv' ∧ cnt[mm.frm]? = some x ∧ v = .tuple #[] ∧ sep l = Hp.rec_ S [av, pv] * (Hp.own FA 2 av mms * (Hp.rec_ pb [lv', cv, .map (some mb), wv] * (Hp.own FN 1 lv' (lst ++ [m]) * (Hp.own FN 1 cv (cnt.set mm.frm (x + 1)) * R))))) := by
  refine Gx.enter (l := [Hp.rec_ S [av, pv], Hp.own FA 2 av mms, Hp.rec_ pb [lv, cv, .map (some mb), wv], Hp.own FN 1 lv lst, Hp.own FN 1 cv cnt, R]) Try.func17 rfl Try.ntmps17 rfl ((H.cast (by show _ = _ * (_ * (_ * (_ * (_ * (_ * 1))))); rw [Hp.mul_one]))) ?_
  refine Gx.know (m' := [(0, ptr S 0), (1, ptr pb 0), (2, .int .i64 ((m : Nat) : Int))]) (.cons rfl (.cons rfl (.cons rfl .nil))) ?_
  refine Gx.seq ?_
  refine Gx.region ?_
  refine Gx.val rfl rfl rfl (val_move rfl rfl) ?_
  refine Gx.val rfl rfl rfl (val_move rfl rfl) ?_
  refine Gx.val rfl rfl rfl (val_nilCheck rfl rfl) ?_
  refine Gx.val rfl rfl rfl (Val.cast (val_fieldAddr rfl Try.underlying49 rfl Try.ty30 rfl rfl) (v' := ptr pb 0) rfl) ?_
  refine Gx.val rfl rfl rfl (val_load rfl Try.ty30 rfl rfl (cell_rec (k := 2) rfl rfl)) ?_
  refine Gx.val rfl rfl rfl (val_move rfl rfl) ?_
  refine Gx.eff rfl rfl rfl (eff_buildSlice rfl (qs := [(0, .int .i64 ((m : Nat) : Int))]) rfl rfl (cs := #[.int .i64 ((m : Nat) : Int)]) (vs := [.int .i64 ((m : Nat) : Int)]) (E := 3) rfl (fun w => by first | (go_simp; done) | (go_simp; rfl))) ?_
  rintro _ _ ⟨b1, rfl, rfl⟩
  refine Gx.eff rfl rfl rfl (eff_push (r := m) rfl Try.eN FN_len FN_one rfl rfl (k := 0) rfl rfl (k' := 3) rfl (by omega) (by omega)) ?_
  rintro v2 _ ⟨hiv2, rfl⟩
  refine Gx.norm (l' := [Hp.rec_ S [av, pv], Hp.own FA 2 av mms, Hp.rec_ pb [lv, cv, .map (some mb), wv], Hp.own FN 1 v2 (lst ++ [m]), Hp.own FN 1 cv cnt, R]) rfl ?_
  refine Gx.val rfl rfl rfl (val_nilCheck rfl rfl) ?_
  refine Gx.val rfl rfl rfl (Val.cast (val_fieldAddr rfl Try.underlying49 rfl Try.ty30 rfl rfl) (v' := ptr pb 0) rfl) ?_
  refine Gx.eff0 rfl rfl (eff_store rfl Try.ty30 rfl rfl (us := [v2]) hiv2.cellsL rfl hiv2.all (k := 2) rfl (rfl) (vs' := [v2, cv, .map (some mb), wv]) (rfl) (l' := [Hp.rec_ S [av, pv], Hp.own FA 2 av mms, Hp.rec_ pb [v2, cv, .map (some mb), wv], Hp.own FN 1 v2 (lst ++ [m]), Hp.own FN 1 cv cnt, R]) rfl) ?_
  rintro _ _ rfl
  refine Gx.done ?_
  refine Gx.thenN ?_
  obtain ⟨x, hx⟩ := get_of_lt (xs := cnt) (k := mm.frm) (by omega)
  refine Gx.regionO (fun j => false) 16 [0, 1, 2, 3, 4, 5, 6, 7, 8, 9, 10, 11, 12, 13, 14, 15] (fun _ => [Hp.rec_ S [av, pv], Hp.own FA 2 av mms, Hp.rec_ pb [v2, cv, .map (some mb), wv], Hp.own FN 1 v2 (lst ++ [m]), Hp.own FN 1 cv cnt, R]) Try.mixed (by kernel_rfl) rfl ?_
  refine Gw.val rfl rfl rfl rfl rfl (fun us => val_move rfl rfl) ?_
  refine Gw.val rfl rfl rfl rfl rfl (fun us => val_nilCheck rfl rfl) ?_
  refine Gw.val rfl rfl rfl rfl rfl (fun us => Val.cast (val_fieldAddr rfl Try.underlying49 rfl Try.ty30 rfl rfl) (v' := ptr pb 1) rfl) ?_
  refine Gw.val0 rfl rfl rfl (by kernel_rfl) rfl rfl (val_load rfl Try.ty30 rfl rfl (cell_rec (k := 2) rfl rfl)) ?_
  refine Gw.val rfl rfl rfl rfl rfl (fun us => val_move rfl rfl) ?_
  refine Gw.val rfl rfl rfl rfl rfl (fun us => val_nilCheck rfl rfl) ?_
  refine Gw.val rfl rfl rfl rfl rfl (fun us => Val.cast (val_fieldAddr rfl Try.underlying45 rfl Try.ty42 rfl rfl) (v' := ptr S 0) rfl) ?_
  refine Gw.val0 rfl rfl rfl (by kernel_rfl) rfl rfl (val_load rfl Try.ty42 rfl rfl (cell_rec (k := 0) rfl rfl)) ?_
  refine Gw.val rfl rfl rfl rfl rfl (fun us => val_move rfl rfl) ?_
  refine Gw.val0 rfl rfl rfl (by kernel_rfl) rfl rfl (val_ixa rfl Try.underlying42 Try.ty53 rfl rfl (j := m) (rfl) (reach_own (k := 1) rfl hm)) ?_
  refine Gw.val rfl rfl rfl rfl rfl (fun us => Val.cast (val_fieldAddr rfl Try.underlying53 rfl Try.ty3 rfl rfl) (v' := ptr (sB av) (sO av + m * 2)) rfl) ?_
  refine Gw.val0 rfl rfl rfl (by kernel_rfl) rfl rfl (val_load rfl Try.ty3 rfl rfl (cell_own (i := 0) (k := 1) rfl hm rfl)) ?_
  refine Gw.val0 rfl rfl rfl (by kernel_rfl) rfl rfl (val_ixa rfl Try.underlying30 Try.ty3 rfl rfl (j := mm.frm) (rfl) (reach_own (k := 4) rfl hx)) ?_
  refine Gw.val0 rfl rfl rfl (by kernel_rfl) rfl rfl (val_load rfl Try.ty3 rfl rfl (cell_own (i := 0) (k := 4) rfl hx rfl)) ?_
  refine Gw.val rfl rfl rfl rfl rfl (fun us => val_add rfl rfl rfl (r := ((x + 1 : Nat) : Int)) (w64 (by have := hcb x (List.mem_of_getElem? hx); omega) (by have := hcb x (List.mem_of_getElem? hx); omega))) ?_
  refine Gw.val0 rfl rfl rfl (by kernel_rfl) rfl rfl (val_ixa rfl Try.underlying30 Try.ty3 rfl rfl (j := mm.frm) (rfl) (reach_own (k := 4) rfl hx)) ?_
  refine Gw.done ?_
  refine Gx.norm (l' := [Hp.rec_ S [av, pv], Hp.own FA 2 av mms, Hp.rec_ pb [v2, cv, .map (some mb), wv], Hp.own FN 1 v2 (lst ++ [m]), Hp.own FN 1 cv cnt, R]) rfl ?_
  refine Gx.eff0 rfl rfl (eff_storeElA (x + 1) rfl Try.ty3 rfl rfl rfl FN_one (k := 4) rfl FN_len hx (l' := [Hp.rec_ S [av, pv], Hp.own FA 2 av mms, Hp.rec_ pb [v2, cv, .map (some mb), wv], Hp.own FN 1 v2 (lst ++ [m]), Hp.own FN 1 cv (cnt.set mm.frm (x + 1)), R]) rfl) ?_
  rintro _ _ rfl
  refine Gx.done ?_
  refine Gx.endN ?_
  refine Gx.front 5 rfl ?_
  refine Gx.front 5 rfl ?_
  refine Gx.front 5 rfl ?_
  refine Gx.front 5 rfl ?_
  refine Gx.front 5 rfl ?_
  refine Gx.front 5 rfl ?_
  refine Gx.ret0 Try.results17 ?_
  exact ⟨_, x, hiv2, hx, rfl, by show _ * (_ * (_ * (_ * (_ * (_ * 1))))) = _; rw [Hp.mul_one]⟩

theorem settle_any {W w : World} {S pb mb wn wc : Nat} {wa : Option Addr} {av pv lv cv : Value} {mms : List Mm} {p : Pt} {R : Hp} (hml : mms.length ≤ 100000) (hfr : ∀ m ∈ mms, m.frm < p.cnt.length) (hnl : ∀ m ∈ mms, m.need.length ≤ p.cnt.length) (hcl : p.cnt.length ≤ 1000) (hll : p.lst.length + p.wts.length ≤ 1000) (hcb : ∀ x ∈ p.cnt, x + p.wts.length ≤ 1000) (hpw : ∀ m ∈ p.wts, m < mms.length) (hwc : wc ≤ maxLen) (hil : IsS lv) (hic : IsS cv)
    (H : Sat W w (Hp.rec_ S [av, pv] * (Hp.own FA 2 av mms * (Hp.big needH mms * (Hp.rec_ pb [lv, cv, .map (some mb), .slice wa wn wc] * (Hp.own FN 1 lv p.lst * (Hp.own FN 1 cv p.cnt * (Hp.own FN 1 (.slice wa wn wc) p.wts * R)))))))) :
    Calls Try.prog 20 #[ptr S 0, ptr pb 0] w (Ret W fun v l => ∃ (lv' : Value) (wm : Nat), IsS lv' ∧ v = .tuple #[] ∧ sep l = Hp.rec_ S [av, pv] * (Hp.own FA 2 av mms * (Hp.big needH mms * (Hp.rec_ pb [lv', cv, .map (some mb), .slice wa wm wc] * (Hp.own FN 1 lv' ((settle (mms.map toMs) p).lst) * (Hp.own FN 1 cv ((settle (mms.map toMs) p).cnt) * (Hp.own FN 1 (.slice wa wm wc) ((settle (mms.map toMs) p).wts) * R))))))) := by
  refine Gx.enter (l := [Hp.rec_ S [av, pv], Hp.own FA 2 av mms, Hp.big needH mms, Hp.rec_ pb [lv, cv, .map (some mb), .slice wa wn wc], Hp.own FN 1 lv p.lst, Hp.own FN 1 cv p.cnt, Hp.own FN 1 (.slice wa wn wc) p.wts, R]) Try.func20 rfl Try.ntmps20 rfl ((H.cast (by show _ = _ * (_ * (_ * (_ * (_ * (_ * (_ * (_ * 1))))))); rw [Hp.mul_one]))) ?_
  refine Gx.know (m' := [(0, ptr S 0), (1, ptr pb 0)]) (.cons rfl (.cons rfl .nil)) ?_
  refine Gx.seq ?_
  refine Gx.region ?_
  refine Gx.eff rfl rfl rfl (eff_box rfl rfl (vs := [ptr S 0]) rfl) ?_
  rintro _ _ ⟨b1, rfl, rfl⟩
  refine Gx.eff rfl rfl rfl (eff_box rfl rfl (vs := [ptr pb 0]) rfl) ?_
  rintro _ _ ⟨b2, rfl, rfl⟩
  refine Gx.done ?_
  refine Gx.thenN ?_
  refine Gx.block ?_
  refine Gx.front 9 rfl ?_
  refine Gx.front 1 rfl ?_
  refine Gx.front 2 rfl ?_
  refine Gx.front 9 rfl ?_
  refine Gx.front 9 rfl ?_
  refine Gx.front 9 rfl ?_
  refine Gx.front 9 rfl ?_
  refine Gx.front 9 rfl ?_
  refine Gx.front 9 rfl ?_
  refine Gx.front 9 rfl ?_
  refine Gx.loop (ι := Pt × Value × Nat) (fun ξ => (stl (mms.map toMs) ξ.1.wts.length ξ.1 = settle (mms.map toMs) p) ∧ (ξ.1.lst.length + ξ.1.wts.length ≤ p.lst.length + p.wts.length) ∧ (ξ.1.cnt.length = p.cnt.length) ∧ (∀ x ∈ ξ.1.cnt, x + ξ.1.wts.length ≤ 1000) ∧ (∀ m ∈ ξ.1.wts, m < mms.length) ∧ (IsS ξ.2.1)) (fun ξ => [(2, ptr b1 0), (3, ptr b2 0)]) (fun ξ => [Hp.rec_ S [av, pv], Hp.own FA 2 av mms, Hp.big needH mms, Hp.rec_ pb [ξ.2.1, cv, .map (some mb), .slice wa ξ.2.2 wc], Hp.own FN 1 ξ.2.1 ξ.1.lst, Hp.own FN 1 cv ξ.1.cnt, Hp.own FN 1 (.slice wa ξ.2.2 wc) ξ.1.wts, Hp.rec_ b1 [ptr S 0], Hp.rec_ b2 [ptr pb 0], R]) (fun ξ => ξ.1.wts.length) (p, lv, wn) ⟨rfl, Nat.le_refl _, rfl, hcb, hpw, hil⟩ ((.cons rfl (.cons rfl .nil))) rfl ?_
  rintro ⟨q, kv, wm⟩ ⟨he, hql, hqc, hqb, hqw, hik⟩
  dsimp only at he hql hqc hqb hqw hik
  refine Gx.know (m' := [(2, ptr b1 0), (3, ptr b2 0)]) (.cons rfl (.cons rfl .nil)) (Gx.norm (l' := [Hp.rec_ S [av, pv], Hp.own FA 2 av mms, Hp.big needH mms, Hp.rec_ pb [kv, cv, .map (some mb), .slice wa wm wc], Hp.own FN 1 kv q.lst, Hp.own FN 1 cv q.cnt, Hp.own FN 1 (.slice wa wm wc) q.wts, Hp.rec_ b1 [ptr S 0], Hp.rec_ b2 [ptr pb 0], R]) rfl ?_)
  refine Gx.block ?_
  refine Gx.seq ?_
  have hqll : q.wts.length ≤ 1000 := by omega
  obtain ⟨kf, hkf⟩ : ∃ kf, kf = fst (rdy (mms.map toMs) q.cnt) q.wts := ⟨_, rfl⟩
  by_cases hf : kf < q.wts.length
  · obtain ⟨mi, hmi⟩ := get_of_lt hf
    obtain ⟨mm, hmm⟩ := get_of_lt (hqw mi (List.mem_of_getElem? hmi))
    have hma : (mms.map toMs)[mi]? = some (toMs mm) := by rw [List.getElem?_map, hmm]; rfl
    have hel9 : (q.wts.eraseIdx kf).length = q.wts.length - 1 := by rw [List.length_eraseIdx, if_pos hf]
    refine Gx.region ?_
    refine Gx.val rfl rfl rfl (val_load rfl Try.ty46 rfl rfl (cell_rec (k := 8) rfl rfl)) ?_
    refine Gx.val rfl rfl rfl (val_nilCheck rfl rfl) ?_
    refine Gx.val rfl rfl rfl (Val.cast (val_fieldAddr rfl Try.underlying49 rfl Try.ty30 rfl rfl) (v' := ptr pb 3) rfl) ?_
    refine Gx.val rfl rfl rfl (val_load rfl Try.ty30 rfl rfl (cell_rec (k := 3) rfl rfl)) ?_
    refine Gx.val rfl rfl rfl (Val.cast (val_makeFunc (us := []) (vs := [ptr b1 0, ptr b2 0]) rfl rfl rfl) (v' := .func (.func 26) #[] #[ptr b1 0, ptr b2 0]) rfl) ?_
    refine Gx.val rfl rfl rfl (val_call (vs := [.slice wa wm wc, .func (.func 26) #[] #[ptr b1 0, ptr b2 0]]) rfl Try.fn25 rfl (fun w H => by have h9 := index_any (q := (rdy (mms.map toMs) q.cnt)) ((H.at_ (k := 6) rfl).sls (by omega)) (fun w' hb x hx => by obtain ⟨mx, hmx⟩ := get_of_lt (hqw x hx); exact pred_any (RdyW.below ⟨(H.at_ (k := 0) rfl).rec_.1, (H.at_ (k := 0) rfl).cell 0 rfl, (H.at_ (k := 1) rfl).sls (by omega), fun k m hm => by obtain ⟨R', hR'⟩ := (H.at_ (k := 2) rfl).bigAt hm; exact Sat.sls hR' (by have := hnl m (List.mem_of_getElem? hm); omega), (H.at_ (k := 3) rfl).rec_.1, (H.at_ (k := 3) rfl).cell 1 rfl, (H.at_ (k := 5) rfl).sls (by omega), fun m hm => by rw [hqc]; exact hnl m hm⟩ hb) hmx (Nat.lt_of_lt_of_le (H.at_ (k := 7) rfl).rec_.1 hb.size) ((hb.cell (p := ⟨b1, 0, none⟩) (H.at_ (k := 7) rfl).rec_.1).trans ((H.at_ (k := 7) rfl).cell 0 rfl)) (Nat.lt_of_lt_of_le (H.at_ (k := 8) rfl).rec_.1 hb.size) ((hb.cell (p := ⟨b2, 0, none⟩) (H.at_ (k := 8) rfl).rec_.1).trans ((H.at_ (k := 8) rfl).cell 0 rfl))); unfold idxV at h9; rw [← hkf, if_pos hf] at h9; exact h9)) ?_
    refine Gx.val rfl rfl rfl (val_assign rfl rfl) ?_
    refine Gx.done ?_
    refine Gx.thenN ?_
    refine Gx.seq ?_
    refine Gx.seq ?_
    refine Gx.region ?_
    refine Gx.val rfl rfl rfl (val_move rfl rfl) ?_
    refine Gx.val rfl rfl rfl (val_lss rfl rfl rfl) ?_
    refine Gx.done ?_
    refine Gx.thenN ?_
    refine Gx.decF rfl (by omega) ?_
    refine Gx.skip ?_
    refine Gx.thenN ?_
    refine Gx.seq ?_
    refine Gx.region ?_
    refine Gx.val rfl rfl rfl (val_load rfl Try.ty46 rfl rfl (cell_rec (k := 8) rfl rfl)) ?_
    refine Gx.val rfl rfl rfl (val_nilCheck rfl rfl) ?_
    refine Gx.val rfl rfl rfl (Val.cast (val_fieldAddr rfl Try.underlying49 rfl Try.ty30 rfl rfl) (v' := ptr pb 3) rfl) ?_
    refine Gx.val rfl rfl rfl (val_load rfl Try.ty30 rfl rfl (cell_rec (k := 3) rfl rfl)) ?_
    refine Gx.val rfl rfl rfl (val_move rfl rfl) ?_
    refine Gx.val rfl rfl rfl (val_ixa rfl Try.underlying30 Try.ty3 rfl rfl (j := kf) (rfl) (reach_own (k := 6) rfl hmi)) ?_
    refine Gx.val rfl rfl rfl (val_load rfl Try.ty3 rfl rfl (cell_own (i := 0) (k := 6) rfl hmi rfl)) ?_
    refine Gx.val rfl rfl rfl (val_assign rfl rfl) ?_
    refine Gx.done ?_
    refine Gx.thenN ?_
    refine Gx.seq ?_
    refine Gx.regionO (fun j => j == 8) 11 [0, 1, 2, 3, 4, 5, 6, 7, 8, 9, 10] (fun us => match us with | [] => [Hp.rec_ S [av, pv], Hp.own FA 2 av mms, Hp.big needH mms, Hp.rec_ pb [kv, cv, .map (some mb), .slice wa wm wc], Hp.own FN 1 kv q.lst, Hp.own FN 1 cv q.cnt, Hp.own FN 1 (.slice wa wm wc) q.wts, Hp.rec_ b1 [ptr S 0], Hp.rec_ b2 [ptr pb 0], R] | u1 :: _ => [Hp.own FN 1 (.slice wa (wm - 1) wc) (q.wts.eraseIdx kf), Hp.rec_ S [av, pv], Hp.own FA 2 av mms, Hp.big needH mms, Hp.rec_ pb [kv, cv, .map (some mb), .slice wa wm wc], Hp.own FN 1 kv q.lst, Hp.own FN 1 cv q.cnt, Hp.rec_ b1 [ptr S 0], Hp.rec_ b2 [ptr pb 0], R]) Try.mixed (by kernel_rfl) rfl ?_
    refine Gw.val rfl rfl rfl rfl rfl (fun us => match us with | [] => val_load rfl Try.ty46 rfl rfl (cell_rec (k := 8) rfl rfl) | u1 :: _ => val_load rfl Try.ty46 rfl rfl (cell_rec (k := 8) rfl rfl)) ?_
    refine Gw.val rfl rfl rfl rfl rfl (fun us => match us with | [] => val_load rfl Try.ty46 rfl rfl (cell_rec (k := 8) rfl rfl) | u1 :: _ => val_load rfl Try.ty46 rfl rfl (cell_rec (k := 8) rfl rfl)) ?_
    refine Gw.val rfl rfl rfl rfl rfl (fun us => val_nilCheck rfl rfl) ?_
    refine Gw.val rfl rfl rfl rfl rfl (fun us => Val.cast (val_fieldAddr rfl Try.underlying49 rfl Try.ty30 rfl rfl) (v' := ptr pb 3) rfl) ?_
    refine Gw.val0 rfl rfl rfl (by kernel_rfl) rfl rfl (val_load rfl Try.ty30 rfl rfl (cell_rec (k := 3) rfl rfl)) ?_
    refine Gw.val rfl rfl rfl rfl rfl (fun us => val_move rfl rfl) ?_
    refine Gw.val rfl rfl rfl rfl rfl (fun us => val_move rfl rfl) ?_
    refine Gw.val rfl rfl rfl rfl rfl (fun us => val_add rfl rfl rfl (r := ((kf + 1 : Nat) : Int)) (w64 (by omega) (by omega))) ?_
    refine Gw.chg rfl rfl rfl rfl rfl (fun v => v = .slice wa (wm - 1) wc) (eff_call (vs := [.slice wa wm wc, .int .i64 ((kf : Nat) : Int), .int .i64 ((kf + 1 : Nat) : Int)]) rfl Try.fn28 rfl (fun w H => delete_any hf hwc (H.at_ (k := 6) rfl))) ?_
    rintro _ rfl
    refine Gw.val rfl rfl rfl rfl rfl (fun us => val_nilCheck rfl rfl) ?_
    refine Gw.val rfl rfl rfl rfl rfl (fun us => Val.cast (val_fieldAddr rfl Try.underlying49 rfl Try.ty30 rfl rfl) (v' := ptr pb 3) rfl) ?_
    refine Gw.done ?_
    refine Gx.norm (l' := [Hp.own FN 1 (.slice wa (wm - 1) wc) (q.wts.eraseIdx kf), Hp.rec_ S [av, pv], Hp.own FA 2 av mms, Hp.big needH mms, Hp.rec_ pb [kv, cv, .map (some mb), .slice wa wm wc], Hp.own FN 1 kv q.lst, Hp.own FN 1 cv q.cnt, Hp.rec_ b1 [ptr S 0], Hp.rec_ b2 [ptr pb 0], R]) rfl ?_
    refine Gx.eff0 rfl rfl (eff_store rfl Try.ty30 rfl rfl (us := [.slice wa (wm - 1) wc]) rfl rfl rfl (k := 4) rfl (rfl) (vs' := [kv, cv, .map (some mb), .slice wa (wm - 1) wc]) (rfl) (l' := [Hp.own FN 1 (.slice wa (wm - 1) wc) (q.wts.eraseIdx kf), Hp.rec_ S [av, pv], Hp.own FA 2 av mms, Hp.big needH mms, Hp.rec_ pb [kv, cv, .map (some mb), .slice wa (wm - 1) wc], Hp.own FN 1 kv q.lst, Hp.own FN 1 cv q.cnt, Hp.rec_ b1 [ptr S 0], Hp.rec_ b2 [ptr pb 0], R]) rfl) ?_
    rintro _ _ rfl
    refine Gx.done ?_
    refine Gx.thenN ?_
    refine Gx.front 6 rfl ?_
    refine Gx.front 6 rfl ?_
    refine Gx.front 6 rfl ?_
    refine Gx.front 5 rfl ?_
    refine Gx.front 5 rfl ?_
    refine Gx.region ?_
    refine Gx.val rfl rfl rfl (val_load rfl Try.ty41 rfl rfl (cell_rec (k := 7) rfl rfl)) ?_
    refine Gx.val rfl rfl rfl (val_load rfl Try.ty46 rfl rfl (cell_rec (k := 8) rfl rfl)) ?_
    refine Gx.val rfl rfl rfl (val_move rfl rfl) ?_
    refine Gx.eff rfl rfl rfl (eff_call (vs := [ptr S 0, ptr pb 0, .int .i64 ((mi : Nat) : Int)]) rfl Try.fn17 rfl (fun w H => hear_any hmm (by rw [hqc]; exact hfr mm (List.mem_of_getElem? hmm)) (fun z hz => by have := hqb z hz; omega) (by omega) (by omega) hml hik hic H)) ?_
    rintro _ l4 ⟨lw, x, hilw, hx, rfl, hl4⟩
    refine Gx.sepEq (l' := [Hp.rec_ S [av, pv], Hp.own FA 2 av mms, Hp.rec_ pb [lw, cv, .map (some mb), .slice wa (wm - 1) wc], Hp.own FN 1 lw (q.lst ++ [mi]), Hp.own FN 1 cv (q.cnt.set mm.frm (x + 1)), Hp.own FN 1 (.slice wa (wm - 1) wc) (q.wts.eraseIdx kf), Hp.big needH mms, Hp.rec_ b1 [ptr S 0], Hp.rec_ b2 [ptr pb 0], R]) hl4 ?_
    refine Gx.done ?_
    refine Gx.blkN ?_
    refine Gx.thenN ?_
    refine Gx.front 9 rfl ?_
    refine Gx.front 9 rfl ?_
    refine Gx.front 9 rfl ?_
    refine Gx.front 8 rfl ?_
    refine Gx.front 8 rfl ?_
    refine Gx.front 8 rfl ?_
    refine Gx.front 8 rfl ?_
    refine Gx.front 9 rfl ?_
    refine Gx.front 9 rfl ?_
    refine Gx.front 9 rfl ?_
    exact Gx.round ((⟨q.lst ++ [mi], q.cnt.set mm.frm (x + 1), q.cm, q.wts.eraseIdx kf⟩ : Pt), lw, (wm - 1)) ⟨by have h8 := stl_step (all := (mms.map toMs)) (q := q) (m := mi) (by rw [← hkf]; exact hmi); rw [← hkf, hear_of hma] at h8; dsimp only at h8; rw [show (toMs mm).frm = mm.frm from rfl, getD_of hx] at h8; rw [← he]; exact h8.symm, by dsimp only; rw [List.length_append, List.length_singleton]; omega, by dsimp only; rw [List.length_set]; exact hqc, fun z hz => by dsimp only at hz ⊢; rw [hel9]; rcases List.mem_or_eq_of_mem_set hz with h | h; (have := hqb z h; omega); (have := hqb x (List.mem_of_getElem? hx); omega), fun z hz => hqw z (List.mem_of_mem_eraseIdx hz), hilw⟩ (by dsimp only; omega) ((.cons rfl (.cons rfl .nil))) rfl
  · refine Gx.region ?_
    refine Gx.val rfl rfl rfl (val_load rfl Try.ty46 rfl rfl (cell_rec (k := 8) rfl rfl)) ?_
    refine Gx.val rfl rfl rfl (val_nilCheck rfl rfl) ?_
    refine Gx.val rfl rfl rfl (Val.cast (val_fieldAddr rfl Try.underlying49 rfl Try.ty30 rfl rfl) (v' := ptr pb 3) rfl) ?_
    refine Gx.val rfl rfl rfl (val_load rfl Try.ty30 rfl rfl (cell_rec (k := 3) rfl rfl)) ?_
    refine Gx.val rfl rfl rfl (Val.cast (val_makeFunc (us := []) (vs := [ptr b1 0, ptr b2 0]) rfl rfl rfl) (v' := .func (.func 26) #[] #[ptr b1 0, ptr b2 0]) rfl) ?_
    refine Gx.val rfl rfl rfl (val_call (vs := [.slice wa wm wc, .func (.func 26) #[] #[ptr b1 0, ptr b2 0]]) rfl Try.fn25 rfl (fun w H => by have h9 := index_any (q := (rdy (mms.map toMs) q.cnt)) ((H.at_ (k := 6) rfl).sls (by omega)) (fun w' hb x hx => by obtain ⟨mx, hmx⟩ := get_of_lt (hqw x hx); exact pred_any (RdyW.below ⟨(H.at_ (k := 0) rfl).rec_.1, (H.at_ (k := 0) rfl).cell 0 rfl, (H.at_ (k := 1) rfl).sls (by omega), fun k m hm => by obtain ⟨R', hR'⟩ := (H.at_ (k := 2) rfl).bigAt hm; exact Sat.sls hR' (by have := hnl m (List.mem_of_getElem? hm); omega), (H.at_ (k := 3) rfl).rec_.1, (H.at_ (k := 3) rfl).cell 1 rfl, (H.at_ (k := 5) rfl).sls (by omega), fun m hm => by rw [hqc]; exact hnl m hm⟩ hb) hmx (Nat.lt_of_lt_of_le (H.at_ (k := 7) rfl).rec_.1 hb.size) ((hb.cell (p := ⟨b1, 0, none⟩) (H.at_ (k := 7) rfl).rec_.1).trans ((H.at_ (k := 7) rfl).cell 0 rfl)) (Nat.lt_of_lt_of_le (H.at_ (k := 8) rfl).rec_.1 hb.size) ((hb.cell (p := ⟨b2, 0, none⟩) (H.at_ (k := 8) rfl).rec_.1).trans ((H.at_ (k := 8) rfl).cell 0 rfl))); unfold idxV at h9; rw [← hkf, if_neg hf] at h9; exact h9)) ?_
    refine Gx.val rfl rfl rfl (val_assign rfl rfl) ?_
    refine Gx.done ?_
    refine Gx.thenN ?_
    refine Gx.seq ?_
    refine Gx.seq ?_
    refine Gx.region ?_
    refine Gx.val rfl rfl rfl (val_move rfl rfl) ?_
    refine Gx.val rfl rfl rfl (Val.cast (val_lss rfl rfl rfl) (v' := .bool true) rfl) ?_
    refine Gx.done ?_
    refine Gx.thenN ?_
    refine Gx.t rfl ?_
    refine Gx.ret ?_
    refine Gx.thenR ?_
    refine Gx.blkR ?_
    refine Gx.thenR ?_
    refine Gx.blkR ?_
    have hfin : settle (mms.map toMs) p = q := by rw [← he]; exact stl_stop (by rw [← hkf]; exact hf)
    refine Gx.drop 8 rfl ?_
    refine Gx.drop 7 rfl ?_
    refine Gx.front 7 rfl ?_
    refine Gx.front 7 rfl ?_
    refine Gx.front 7 rfl ?_
    refine Gx.front 7 rfl ?_
    refine Gx.front 7 rfl ?_
    refine Gx.front 7 rfl ?_
    refine Gx.front 7 rfl ?_
    refine Gx.front 7 rfl ?_
    refine Gx.ret0 Try.results20 ?_
    exact ⟨kv, wm, hik, rfl, by rw [hfin]; show _ * (_ * (_ * (_ * (_ * (_ * (_ * (_ * 1))))))) = _; rw [Hp.mul_one]⟩

end Go.Proofs.Ytcjdphhofjibdaa
