/- Who hears a message has heard its causes. The walk. No condition. -/
import Derived.Test.YtcjdphhofjibdaaB3
namespace Go.Proofs.Ytcjdphhofjibdaa
open Go.RowKit
set_option linter.unusedVariables false
set_option linter.unusedSimpArgs false
set_option maxRecDepth 100000

theorem order_no {W : World} {k : Int} {sv : Value} {cs : List Mv} (hs : SlS FM 3 W sv cs) (hbad : k < 1 ∨ 6 < k ∨ 120 < (cs.length : Int)) :
    Calls Try.prog 3 #[.int .i64 k, sv] W fun e w' => e = .returned (.bool true) ∧ Below W.heap.size W w' := by
  refine calls_pure (Gx.enter (l := []) Try.func3 rfl Try.ntmps3 rfl (Sat.start W) ?_)
  refine Gx.know (m' := [(0, .int .i64 k), (1, sv)]) (.cons rfl (.cons rfl .nil)) ?_
  refine Gx.seq ?_
  refine Gx.region ?_
  refine Gx.val rfl rfl rfl (val_assign rfl rfl) ?_
  refine Gx.done ?_
  refine Gx.thenN ?_
  refine Gx.seq ?_
  refine Gx.region ?_
  refine Gx.val rfl rfl rfl (val_move rfl rfl) ?_
  refine Gx.val rfl rfl rfl (val_move rfl rfl) ?_
  refine Gx.val rfl rfl rfl (val_call (vs := [.int .i64 k, sv]) rfl Try.fn7 rfl (fun w H => play_no (hs.below H.below) (by omega))) ?_
  refine Gx.val rfl rfl rfl (val_move rfl rfl) ?_
  refine Gx.val rfl rfl rfl (val_extract rfl rfl rfl) ?_
  refine Gx.val rfl rfl rfl (val_extract rfl rfl rfl) ?_
  refine Gx.eff rfl rfl rfl (eff_alloc rfl Try.ty26 (vs := [.slice none 0 0, .slice none 0 0]) rfl) ?_
  rintro _ _ ⟨b1, rfl, rfl⟩
  refine Gx.eff0 rfl rfl (eff_store rfl Try.ty26 rfl rfl (us := [.slice none 0 0, .slice none 0 0]) rfl rfl rfl (k := 0) rfl (rfl) (vs' := [.slice none 0 0, .slice none 0 0]) (rfl) (l' := [Hp.rec_ b1 [.slice none 0 0, .slice none 0 0]]) rfl) ?_
  rintro _ _ rfl
  refine Gx.val rfl rfl rfl (val_assign rfl rfl) ?_
  refine Gx.done ?_
  refine Gx.thenN ?_
  refine Gx.seq ?_
  refine Gx.seq ?_
  refine Gx.region ?_
  refine Gx.val rfl rfl rfl (val_move rfl rfl) ?_
  refine Gx.val rfl rfl rfl (Val.cast (val_neq rfl rfl rfl) (v' := .bool true) rfl) ?_
  refine Gx.done ?_
  refine Gx.thenN ?_
  refine Gx.t rfl ?_
  refine Gx.seq ?_
  refine Gx.region ?_
  refine Gx.val rfl rfl rfl (Val.cast (val_fieldAddr rfl Try.underlying26 rfl Try.ty24 rfl rfl) (v' := ptr b1 1) rfl) ?_
  refine Gx.val rfl rfl rfl (val_load rfl Try.ty24 rfl rfl (cell_rec (k := 0) rfl rfl)) ?_
  refine Gx.val rfl rfl rfl (val_len rfl Try.underlying24 rfl len_lit) ?_
  refine Gx.val rfl rfl rfl (Val.cast (val_eql rfl rfl rfl) (v' := .bool true) rfl) ?_
  refine Gx.val rfl rfl rfl (val_assign rfl rfl) ?_
  refine Gx.done ?_
  refine Gx.thenN ?_
  refine Gx.ret ?_
  refine Gx.thenR ?_
  refine Gx.ret1 Try.results3 rfl ?_
  rfl

theorem key_pos {n w i c : Nat} {s t : CS} {p : Pt} (ht : InvC n t) (hs : InvC n s) (hpre : s.all <+: t.all) (hi : i < n) (hp : s.ps[w]? = some p) (hm : t.all[s.all.length]? = some ⟨w, p.cnt⟩) (hc : c ∈ p.lst) (h0 : 0 ≤ posI (lstC t i) s.all.length) : ∃ jj : Nat, posI (lstC t i) c = (jj : Int) ∧ (jj : Int) < posI (lstC t i) s.all.length := by
  obtain ⟨q, hq⟩ := get_of_lt (xs := t.ps) (k := i) (by rw [ht.len]; exact hi)
  have hn := ht.lst (i := i)
  rw [lstC_of hq] at hn h0 ⊢
  obtain ⟨k, hk, hpk⟩ := posI_mem hn.1 (Int.not_lt.2 h0)
  obtain ⟨j, hj, hjc⟩ := ht.before hs hpre hp hm hq hk hc
  exact ⟨j, posI_at hn.1 hjc, by rw [hpk]; omega⟩
theorem own_pos2 {n m w : Nat} {s : CS} {a : Ms} (hI : InvC n s) (hw : w < n) (ha : s.all[m]? = some a) (hf : a.frm = w) : ∃ k : Nat, posI (lstC s w) m = (k : Int) := by
  obtain ⟨p, hp⟩ := get_of_lt (xs := s.ps) (k := w) (by rw [hI.len]; exact hw)
  obtain ⟨hR, _⟩ := hI.row w p hp
  have hm := hR.own m a ha hf
  have hn := hI.lst (i := w)
  rw [lstC_of hp] at hn ⊢
  obtain ⟨k, hk⟩ := List.getElem?_of_mem hm
  exact ⟨k, posI_at hn.1 hk⟩
theorem order_yes {W : World} {n : Nat} {sv : Value} {cs : List Mv} (h1n : 1 ≤ n) (h6n : n ≤ 6) (hs : SlS FM 3 W sv cs) (hcl : cs.length ≤ 120) :
    Calls Try.prog 3 #[.int .i64 ((n : Nat) : Int), sv] W fun e w' => e = .returned (.bool true) ∧ Below W.heap.size W w' := by
  have hI := (InvC.zero n).run cs
  have hbl := sndL_le cs (codesC (cs0 n) cs) cs.length
  have hse := sent_fin (n := n) (cs := cs)
  refine calls_pure (Gx.enter (l := []) Try.func3 rfl Try.ntmps3 rfl (Sat.start W) ?_)
  refine Gx.know (m' := [(0, .int .i64 ((n : Nat) : Int)), (1, sv)]) (.cons rfl (.cons rfl .nil)) ?_
  refine Gx.seq ?_
  refine Gx.region ?_
  refine Gx.val rfl rfl rfl (val_assign rfl rfl) ?_
  refine Gx.done ?_
  refine Gx.thenN ?_
  refine Gx.seq ?_
  refine Gx.region ?_
  refine Gx.val rfl rfl rfl (val_move rfl rfl) ?_
  refine Gx.val rfl rfl rfl (val_move rfl rfl) ?_
  refine Gx.callB rfl rfl rfl (vs := [.int .i64 ((n : Nat) : Int), sv]) rfl Try.fn7 rfl (R := fun v w' => ∃ (cv dv : Value) (vals : List Sv), v = .tuple #[.agg #[cv, dv], .int .i64 0] ∧ SlS FZ 1 w' cv (codesC (cs0 n) cs) ∧ SlS FV 1 w' dv vals ∧ vals.length = n ∧ ∀ (kw : Nat) (v : Sv), vals[kw]? = some v → SlS FN 1 w' (.slice v.a v.n v.c) (lstC (stC (cs0 n) cs) kw)) (fun w H => play_ok h1n h6n (hs.below H.below) (by omega)) ?_
  rintro _ W4 ⟨cv1, dv2, vals3, rfl, hcv1, hdv2, hldv2, hrdv2⟩ H5
  have hW6 := H5.below
  have hs7 := hs.below H5.below
  have hclcv1 : (codesC (cs0 n) cs).length = (cs).length := codesC_len ..
  obtain ⟨sa8, sn9, sc10, rfl⟩ := hcv1.isS
  obtain ⟨sa11, sn12, sc13, rfl⟩ := hdv2.isS
  refine Gx.val rfl rfl rfl (val_move rfl rfl) ?_
  refine Gx.val rfl rfl rfl (val_extract rfl rfl rfl) ?_
  refine Gx.val rfl rfl rfl (val_extract rfl rfl rfl) ?_
  refine Gx.eff rfl rfl rfl (eff_alloc rfl Try.ty26 (vs := [.slice none 0 0, .slice none 0 0]) rfl) ?_
  rintro _ _ ⟨b14, rfl, rfl⟩
  refine Gx.eff0 rfl rfl (eff_store rfl Try.ty26 rfl rfl (us := [.slice sa8 sn9 sc10, .slice sa11 sn12 sc13]) rfl rfl rfl (k := 0) rfl (rfl) (vs' := [.slice sa8 sn9 sc10, .slice sa11 sn12 sc13]) (rfl) (l' := [Hp.rec_ b14 [.slice sa8 sn9 sc10, .slice sa11 sn12 sc13]]) rfl) ?_
  rintro _ _ rfl
  refine Gx.val rfl rfl rfl (val_assign rfl rfl) ?_
  refine Gx.done ?_
  refine Gx.thenN ?_
  refine Gx.seq ?_
  refine Gx.seq ?_
  refine Gx.region ?_
  refine Gx.val rfl rfl rfl (val_move rfl rfl) ?_
  refine Gx.val rfl rfl rfl (Val.cast (val_neq rfl rfl rfl) (v' := .bool false) rfl) ?_
  refine Gx.done ?_
  refine Gx.thenN ?_
  refine Gx.f rfl ?_
  refine Gx.skip ?_
  refine Gx.thenN ?_
  refine Gx.seq ?_
  refine Gx.seq ?_
  refine Gx.region ?_
  refine Gx.val rfl rfl rfl (Val.cast (val_fieldAddr rfl Try.underlying26 rfl Try.ty24 rfl rfl) (v' := ptr b14 1) rfl) ?_
  refine Gx.val rfl rfl rfl (val_load rfl Try.ty24 rfl rfl (cell_rec (k := 0) rfl rfl)) ?_
  refine Gx.val rfl rfl rfl (val_len rfl Try.underlying24 rfl (len_base hdv2)) ?_
  refine Gx.val rfl rfl rfl (val_move rfl rfl) ?_
  refine Gx.val rfl rfl rfl (val_neq rfl rfl rfl) ?_
  refine Gx.val rfl rfl rfl (val_move rfl rfl) ?_
  refine Gx.slot (t := 38) (v := .bool false) (look_decF rfl (by omega)) ?_
  refine Gx.valg rfl rfl rfl rfl rfl (Val.cast (val_fieldAddr rfl Try.underlying26 rfl Try.ty23 rfl rfl) (v' := ptr b14 0) rfl) ?_
  refine Gx.valg rfl rfl rfl rfl rfl (val_load rfl Try.ty23 rfl rfl (cell_rec (k := 0) rfl rfl)) ?_
  refine Gx.valg rfl rfl rfl rfl rfl (val_len rfl Try.underlying23 rfl (len_base hcv1)) ?_
  refine Gx.valg rfl rfl rfl rfl rfl (val_move rfl rfl) ?_
  refine Gx.valg rfl rfl rfl rfl rfl (val_len rfl Try.underlying22 rfl (len_base hs7)) ?_
  refine Gx.valg rfl rfl rfl rfl rfl (val_neq rfl rfl rfl) ?_
  refine Gx.val rfl rfl rfl (val_pickF rfl rfl rfl) ?_
  refine Gx.done ?_
  refine Gx.thenN ?_
  refine Gx.decF rfl (by omega) ?_
  refine Gx.skip ?_
  refine Gx.thenN ?_
  refine Gx.seq ?_
  refine Gx.region ?_
  refine Gx.val rfl rfl rfl (val_move rfl rfl) ?_
  refine Gx.val rfl rfl rfl (Val.cast (val_fieldAddr rfl Try.underlying26 rfl Try.ty23 rfl rfl) (v' := ptr b14 0) rfl) ?_
  refine Gx.val rfl rfl rfl (val_load rfl Try.ty23 rfl rfl (cell_rec (k := 0) rfl rfl)) ?_
  refine Gx.eff rfl rfl rfl (eff_call (vs := [sv, .slice sa8 sn9 sc10]) rfl Try.fn8 rfl (fun w H => sent_any (hs7) (hcv1) hclcv1 hcl H)) ?_
  rintro sx15 l16 ⟨hisx15, hl16⟩
  refine Gx.sepEq (l' := [Hp.own FN 1 sx15 (sndL cs (codesC (cs0 n) cs) cs.length), Hp.rec_ b14 [.slice sa8 sn9 sc10, .slice sa11 sn12 sc13]]) hl16 ?_
  refine Gx.val rfl rfl rfl (val_assign rfl rfl) ?_
  refine Gx.done ?_
  refine Gx.thenN ?_
  refine Gx.seq ?_
  refine Gx.seq ?_
  refine Gx.region ?_
  refine Gx.val rfl rfl rfl (Val.cast (val_fieldAddr rfl Try.underlying26 rfl Try.ty24 rfl rfl) (v' := ptr b14 1) rfl) ?_
  refine Gx.val rfl rfl rfl (val_load rfl Try.ty24 rfl rfl (cell_rec (k := 1) rfl rfl)) ?_
  refine Gx.val rfl rfl rfl (val_len rfl Try.underlying24 rfl (len_base hdv2)) ?_
  refine Gx.val rfl rfl rfl (val_move rfl rfl) ?_
  refine Gx.done ?_
  refine Gx.thenN ?_
  refine Gx.block ?_
  refine Gx.loop (ι := Nat) (fun ξ => (ξ ≤ n)) (fun ξ => [(0, .int .i64 ((n : Nat) : Int)), (1, sv), (5, ptr b14 0), (7, sx15), (51, .slice sa11 sn12 sc13), (52, .int .i64 ((vals3.length : Nat) : Int)), (53, .int .i64 ((ξ : Nat) : Int))]) (fun ξ => [Hp.own FN 1 sx15 (sndL cs (codesC (cs0 n) cs) cs.length), Hp.rec_ b14 [.slice sa8 sn9 sc10, .slice sa11 sn12 sc13]]) (fun ξ => n - ξ) 0 (by first | omega | (dsimp only; omega)) ((.cons rfl (.cons rfl (.cons rfl (.cons rfl (.cons rfl (.cons rfl (.cons rfl .nil)))))))) rfl ?_
  rintro i hi
  refine Gx.know (m' := [(0, .int .i64 ((n : Nat) : Int)), (1, sv), (5, ptr b14 0), (7, sx15), (51, .slice sa11 sn12 sc13), (52, .int .i64 ((vals3.length : Nat) : Int)), (53, .int .i64 ((i : Nat) : Int))]) (.cons rfl (.cons rfl (.cons rfl (.cons rfl (.cons rfl (.cons rfl (.cons rfl .nil))))))) (Gx.norm (l' := [Hp.own FN 1 sx15 (sndL cs (codesC (cs0 n) cs) cs.length), Hp.rec_ b14 [.slice sa8 sn9 sc10, .slice sa11 sn12 sc13]]) rfl ?_)
  refine Gx.seq ?_
  refine Gx.region ?_
  refine Gx.val rfl rfl rfl (val_lss rfl rfl rfl) ?_
  refine Gx.done ?_
  refine Gx.thenN ?_
  refine Gx.seq ?_
  refine Gx.dec rfl (fun h17 => ?_) (fun h17 => ?_)
  · refine Gx.skip ?_
    refine Gx.thenN ?_
    refine Gx.seq ?_
    refine Gx.block ?_
    refine Gx.seq ?_
    obtain ⟨xa, hxa⟩ := get_of_lt (xs := vals3) (k := i) (by omega)
    have hrxa := hrdv2 i xa hxa
    have hnxa := hI.lst (i := i)
    refine Gx.region ?_
    refine Gx.val rfl rfl rfl (val_ixa rfl Try.underlying24 Try.ty30 rfl rfl (j := i) (rfl) (reach_base hdv2 hxa)) ?_
    refine Gx.val rfl rfl rfl (val_load rfl Try.ty30 rfl rfl (cell_base (i := 0) hdv2 hxa rfl)) ?_
    refine Gx.val rfl rfl rfl (val_assign rfl rfl) ?_
    refine Gx.done ?_
    refine Gx.thenN ?_
    refine Gx.seq ?_
    refine Gx.region ?_
    refine Gx.val rfl rfl rfl (val_move rfl rfl) ?_
    refine Gx.val rfl rfl rfl (val_call (vs := [.slice xa.a xa.n xa.c]) rfl Try.fn9 rfl (fun w H => once_yes (hrxa.below H.below) hnxa.1)) ?_
    refine Gx.val rfl rfl rfl (Val.cast (val_not rfl rfl) (v' := .bool false) rfl) ?_
    refine Gx.val rfl rfl rfl (val_move rfl rfl) ?_
    refine Gx.valg rfl rfl rfl rfl rfl (val_move rfl rfl) ?_
    refine Gx.valg rfl rfl rfl rfl rfl (val_len rfl Try.underlying30 rfl (len_own (k := 0) rfl)) ?_
    refine Gx.valg rfl rfl rfl rfl rfl (val_move rfl rfl) ?_
    refine Gx.valg rfl rfl rfl rfl rfl (val_call (vs := [.int .i64 (((sndL cs (codesC (cs0 n) cs) cs.length).length : Nat) : Int), .slice xa.a xa.n xa.c]) rfl Try.fn10 rfl (fun w H => inside_yes (hrxa.below H.below) (fun x hx => by have := hnxa.2 x hx; have := hse.1; omega))) ?_
    refine Gx.valg rfl rfl rfl rfl rfl (Val.cast (val_not rfl rfl) (v' := .bool false) rfl) ?_
    refine Gx.val rfl rfl rfl (val_pickF rfl rfl rfl) ?_
    refine Gx.done ?_
    refine Gx.thenN ?_
    refine Gx.f rfl ?_
    refine Gx.skip ?_
    refine Gx.blkN ?_
    refine Gx.thenN ?_
    refine Gx.region ?_
    refine Gx.val rfl rfl rfl (val_add rfl rfl rfl (r := ((i + 1 : Nat) : Int)) (w64 (by omega) (by omega))) ?_
    refine Gx.val rfl rfl rfl (val_move rfl rfl) ?_
    refine Gx.done ?_
    refine Gx.thenN ?_
    exact Gx.round (i + 1) (by first | omega | (dsimp only; omega)) (by first | omega | (dsimp only; omega)) ((.cons rfl (.cons rfl (.cons rfl (.cons rfl (.cons rfl (.cons rfl (.cons rfl .nil)))))))) rfl
  · refine Gx.exit ?_
    refine Gx.thenE ?_
    refine Gx.thenE ?_
    refine Gx.blkE ?_
    refine Gx.thenN ?_
    refine Gx.seq ?_
    refine Gx.seq ?_
    refine Gx.region ?_
    refine Gx.val rfl rfl rfl (val_move rfl rfl) ?_
    refine Gx.val rfl rfl rfl (val_len rfl Try.underlying30 rfl (len_own (k := 0) rfl)) ?_
    refine Gx.val rfl rfl rfl (val_move rfl rfl) ?_
    refine Gx.done ?_
    refine Gx.thenN ?_
    refine Gx.block ?_
    refine Gx.loop (ι := Nat) (fun ξ => (ξ ≤ (sndL cs (codesC (cs0 n) cs) cs.length).length)) (fun ξ => [(0, .int .i64 ((n : Nat) : Int)), (1, sv), (5, ptr b14 0), (7, sx15), (68, sx15), (69, .int .i64 (((sndL cs (codesC (cs0 n) cs) cs.length).length : Nat) : Int)), (70, .int .i64 ((ξ : Nat) : Int))]) (fun ξ => [Hp.own FN 1 sx15 (sndL cs (codesC (cs0 n) cs) cs.length), Hp.rec_ b14 [.slice sa8 sn9 sc10, .slice sa11 sn12 sc13]]) (fun ξ => (sndL cs (codesC (cs0 n) cs) cs.length).length - ξ) 0 (by first | omega | (dsimp only; omega)) ((.cons rfl (.cons rfl (.cons rfl (.cons rfl (.cons rfl (.cons rfl (.cons rfl .nil)))))))) rfl ?_
    rintro m hm
    refine Gx.know (m' := [(0, .int .i64 ((n : Nat) : Int)), (1, sv), (5, ptr b14 0), (7, sx15), (68, sx15), (69, .int .i64 (((sndL cs (codesC (cs0 n) cs) cs.length).length : Nat) : Int)), (70, .int .i64 ((m : Nat) : Int))]) (.cons rfl (.cons rfl (.cons rfl (.cons rfl (.cons rfl (.cons rfl (.cons rfl .nil))))))) (Gx.norm (l' := [Hp.own FN 1 sx15 (sndL cs (codesC (cs0 n) cs) cs.length), Hp.rec_ b14 [.slice sa8 sn9 sc10, .slice sa11 sn12 sc13]]) rfl ?_)
    refine Gx.seq ?_
    refine Gx.region ?_
    refine Gx.val rfl rfl rfl (val_lss rfl rfl rfl) ?_
    refine Gx.done ?_
    refine Gx.thenN ?_
    refine Gx.seq ?_
    refine Gx.dec rfl (fun h18 => ?_) (fun h18 => ?_)
    · refine Gx.skip ?_
      refine Gx.thenN ?_
      refine Gx.seq ?_
      refine Gx.block ?_
      refine Gx.seq ?_
      refine Gx.region ?_
      refine Gx.val rfl rfl rfl (val_move rfl rfl) ?_
      obtain ⟨x19, hx19⟩ := get_of_lt (xs := (sndL cs (codesC (cs0 n) cs) cs.length)) (k := m) (by omega)
      refine Gx.val rfl rfl rfl (val_ixa rfl Try.underlying30 Try.ty3 rfl rfl (j := m) (rfl) (reach_own (k := 0) rfl hx19)) ?_
      refine Gx.val rfl rfl rfl (val_load rfl Try.ty3 rfl rfl (cell_own (i := 0) (k := 0) rfl hx19 rfl)) ?_
      refine Gx.val rfl rfl rfl (val_assign rfl rfl) ?_
      refine Gx.val rfl rfl rfl (val_assign rfl rfl) ?_
      refine Gx.done ?_
      refine Gx.thenN ?_
      refine Gx.seq ?_
      obtain ⟨cx, wq, pq, hlt, hcx, hwq, hwn, hpq, hsl, ham⟩ := hse.2 m x19 hx19
      have hI2 := (InvC.zero n).run (cs.take x19)
      have hpre : (stC (cs0 n) (cs.take x19)).all <+: (stC (cs0 n) cs).all := by
        have h8 := (LeC.run (cs.drop x19) (stC (cs0 n) (cs.take x19))).1
        rwa [← stC_app, List.take_append_drop] at h8
      obtain ⟨kq, hkq⟩ := own_pos2 hI hwn ham rfl
      obtain ⟨vx, hvx⟩ := get_of_lt (xs := vals3) (k := wq) (by omega)
      have hrvx := hrdv2 wq vx hvx
      have hnvx := hI.lst (i := wq)
      refine Gx.region ?_
      refine Gx.val rfl rfl rfl (val_move rfl rfl) ?_
      refine Gx.val rfl rfl rfl (val_move rfl rfl) ?_
      refine Gx.val rfl rfl rfl (val_move rfl rfl) ?_
      have hcut20 : SlS FM 3 W4 (sCut 3 0 x19 sv) (cs.take x19) := (hs7).cut (lo := 0) (hi := x19) (by omega) (by omega)
      refine Gx.val rfl rfl rfl (val_cutTo (up := x19) rfl Try.underlying22 Try.ty35 rfl hs7 rfl (rfl) (by omega)) ?_
      refine Gx.eff rfl rfl rfl (eff_callN (vs := [.int .i64 ((n : Nat) : Int), sCut 3 0 x19 sv]) rfl Try.fn7 rfl (fun w H => play_raw h1n h6n (hcut20.below H.below) (by rw [List.length_take]; omega))) ?_
      rintro _ _ ⟨_, ⟨cv2, dv2, vals2, mms2, pms2, P2, rfl, rfl, hok2, hvl2, hvo2⟩, rfl⟩
      refine Gx.norm (l' := [Hp.own FZ 1 cv2 (codesC (cs0 n) (cs.take x19)), Hp.own FV 1 dv2 vals2, Hp.big procH pms2, P2, Hp.own FN 1 sx15 (sndL cs (codesC (cs0 n) cs) cs.length), Hp.rec_ b14 [.slice sa8 sn9 sc10, .slice sa11 sn12 sc13]]) (rfl) ?_
      refine Gx.fact (p := IsS cv2) (fun w H => isS_own (H.at_ (k := 0) rfl)) (fun hicv2 => ?_)
      refine Gx.fact (p := IsS dv2) (fun w H => isS_own (H.at_ (k := 1) rfl)) (fun hidv2 => ?_)
      obtain ⟨sa21, sn22, sc23, rfl⟩ := hicv2
      obtain ⟨sa24, sn25, sc26, rfl⟩ := hidv2
      refine Gx.val rfl rfl rfl (val_move rfl rfl) ?_
      refine Gx.val rfl rfl rfl (val_extract rfl rfl rfl) ?_
      refine Gx.val rfl rfl rfl (val_extract rfl rfl rfl) ?_
      refine Gx.eff rfl rfl rfl (eff_alloc rfl Try.ty26 (vs := [.slice none 0 0, .slice none 0 0]) rfl) ?_
      rintro _ _ ⟨b27, rfl, rfl⟩
      refine Gx.eff0 rfl rfl (eff_store rfl Try.ty26 rfl rfl (us := [.slice sa21 sn22 sc23, .slice sa24 sn25 sc26]) rfl rfl rfl (k := 0) rfl (rfl) (vs' := [.slice sa21 sn22 sc23, .slice sa24 sn25 sc26]) (rfl) (l' := [Hp.rec_ b27 [.slice sa21 sn22 sc23, .slice sa24 sn25 sc26], Hp.own FZ 1 (.slice sa21 sn22 sc23) (codesC (cs0 n) (cs.take x19)), Hp.own FV 1 (.slice sa24 sn25 sc26) vals2, Hp.big procH pms2, P2, Hp.own FN 1 sx15 (sndL cs (codesC (cs0 n) cs) cs.length), Hp.rec_ b14 [.slice sa8 sn9 sc10, .slice sa11 sn12 sc13]]) rfl) ?_
      rintro _ _ rfl
      refine Gx.val rfl rfl rfl (val_assign rfl rfl) ?_
      refine Gx.done ?_
      refine Gx.thenN ?_
      refine Gx.seq ?_
      refine Gx.region ?_
      refine Gx.val rfl rfl rfl (val_move rfl rfl) ?_
      refine Gx.val rfl rfl rfl (val_move rfl rfl) ?_
      refine Gx.val rfl rfl rfl (val_ixa rfl Try.underlying22 Try.ty35 rfl rfl (j := x19) (rfl) (reach_base hs7 hcx)) ?_
      refine Gx.val rfl rfl rfl (Val.cast (val_fieldAddr rfl Try.underlying35 rfl Try.ty3 rfl rfl) (v' := ptr (sB sv) (sO sv + x19 * 3 + 1)) rfl) ?_
      refine Gx.val rfl rfl rfl (val_load rfl Try.ty3 rfl rfl (cell_base (i := 1) hs7 hcx rfl)) ?_
      refine Gx.val rfl rfl rfl (val_assign rfl rfl) ?_
      refine Gx.done ?_
      refine Gx.thenN ?_
      refine Gx.seq ?_
      refine Gx.seq ?_
      refine Gx.slot (t := 14) (v := .int .i64 ((wq : Nat) : Int)) (congrArg some (congrArg (Value.int .i64) hwq)) ?_
      refine Gx.region ?_
      refine Gx.val rfl rfl rfl (val_move rfl rfl) ?_
      refine Gx.val rfl rfl rfl (Val.cast (val_neq rfl rfl rfl) (v' := .bool false) rfl) ?_
      refine Gx.val rfl rfl rfl (val_move rfl rfl) ?_
      refine Gx.valg rfl rfl rfl rfl rfl (Val.cast (val_fieldAddr rfl Try.underlying26 rfl Try.ty24 rfl rfl) (v' := ptr b27 1) rfl) ?_
      refine Gx.valg rfl rfl rfl rfl rfl (val_load rfl Try.ty24 rfl rfl (cell_rec (k := 0) rfl rfl)) ?_
      refine Gx.valg rfl rfl rfl rfl rfl (val_len rfl Try.underlying24 rfl (len_own (k := 2) rfl)) ?_
      refine Gx.valg rfl rfl rfl rfl rfl (val_move rfl rfl) ?_
      refine Gx.valg rfl rfl rfl rfl rfl (val_neq rfl rfl rfl) ?_
      refine Gx.val rfl rfl rfl (val_pickF rfl rfl rfl) ?_
      refine Gx.val rfl rfl rfl (val_move rfl rfl) ?_
      refine Gx.slot (t := 97) (v := .bool false) (look_decF rfl (by omega)) ?_
      refine Gx.valg rfl rfl rfl rfl rfl (Val.cast (val_fieldAddr rfl Try.underlying26 rfl Try.ty24 rfl rfl) (v' := ptr b14 1) rfl) ?_
      refine Gx.valg rfl rfl rfl rfl rfl (val_load rfl Try.ty24 rfl rfl (cell_rec (k := 6) rfl rfl)) ?_
      refine Gx.valg rfl rfl rfl rfl rfl (val_move rfl rfl) ?_
      refine Gx.valg rfl rfl rfl rfl rfl (val_ixa rfl Try.underlying24 Try.ty30 rfl rfl (j := wq) (rfl) (reach_base hdv2 hvx)) ?_
      refine Gx.valg rfl rfl rfl rfl rfl (val_load rfl Try.ty30 rfl rfl (cell_base (i := 0) hdv2 hvx rfl)) ?_
      refine Gx.valg rfl rfl rfl rfl rfl (val_move rfl rfl) ?_
      refine Gx.valg rfl rfl rfl rfl rfl (val_call (vs := [.slice vx.a vx.n vx.c, .int .i64 ((m : Nat) : Int)]) rfl Try.fn11 rfl (fun w H => pos_any (hrvx.below H.below))) ?_
      refine Gx.valg rfl rfl rfl rfl rfl (val_lss rfl rfl rfl) ?_
      refine Gx.val rfl rfl rfl (val_pickF rfl rfl rfl) ?_
      refine Gx.done ?_
      refine Gx.thenN ?_
      refine Gx.decF rfl (by omega) ?_
      refine Gx.skip ?_
      refine Gx.thenN ?_
      refine Gx.seq ?_
      obtain ⟨x2, hx2⟩ := get_of_lt (xs := vals2) (k := wq) (by omega)
      obtain ⟨m2, hm2, hmv2⟩ := hvo2 wq x2 hx2
      have hmp2 : m2.p = pq := by
        have h8 := hpq
        rw [← hok2.ps, List.getElem?_map, hm2] at h8; exact Option.some.inj h8
      refine Gx.focus (n := 3) (k := wq) rfl hm2 (fun R28 hf29 hg30 => ?_)
      refine Gx.norm (l' := [Hp.rec_ b27 [.slice sa21 sn22 sc23, .slice sa24 sn25 sc26], Hp.own FZ 1 (.slice sa21 sn22 sc23) (codesC (cs0 n) (cs.take x19)), Hp.own FV 1 (.slice sa24 sn25 sc26) vals2, procH m2, P2, Hp.own FN 1 sx15 (sndL cs (codesC (cs0 n) cs) cs.length), Hp.rec_ b14 [.slice sa8 sn9 sc10, .slice sa11 sn12 sc13], R28]) rfl ?_
      refine Gx.cleave 3 (p := Hp.rec_ m2.b [m2.lv, m2.cv, .map (some m2.mb), m2.wv]) (q := Hp.map Try.prog 3 natL natV m2.mb m2.p.cm * (Hp.own FN 1 m2.lv m2.p.lst * (Hp.own FN 1 m2.cv m2.p.cnt * (Hp.own FN 1 m2.wv m2.p.wts)))) rfl rfl rfl ?_
      refine Gx.cleave 1 (p := Hp.map Try.prog 3 natL natV m2.mb m2.p.cm) (q := Hp.own FN 1 m2.lv m2.p.lst * (Hp.own FN 1 m2.cv m2.p.cnt * (Hp.own FN 1 m2.wv m2.p.wts))) rfl rfl rfl ?_
      refine Gx.cleave 1 (p := Hp.own FN 1 m2.lv m2.p.lst) (q := Hp.own FN 1 m2.cv m2.p.cnt * (Hp.own FN 1 m2.wv m2.p.wts)) rfl rfl rfl ?_
      refine Gx.cleave 1 (p := Hp.own FN 1 m2.cv m2.p.cnt) (q := Hp.own FN 1 m2.wv m2.p.wts) rfl rfl rfl ?_
      refine Gx.norm (l' := [Hp.own FN 1 m2.cv m2.p.cnt, Hp.own FN 1 m2.wv m2.p.wts, Hp.own FN 1 m2.lv m2.p.lst, Hp.map Try.prog 3 natL natV m2.mb m2.p.cm, Hp.rec_ m2.b [m2.lv, m2.cv, .map (some m2.mb), m2.wv], Hp.rec_ b27 [.slice sa21 sn22 sc23, .slice sa24 sn25 sc26], Hp.own FZ 1 (.slice sa21 sn22 sc23) (codesC (cs0 n) (cs.take x19)), Hp.own FV 1 (.slice sa24 sn25 sc26) vals2, P2, Hp.own FN 1 sx15 (sndL cs (codesC (cs0 n) cs) cs.length), Hp.rec_ b14 [.slice sa8 sn9 sc10, .slice sa11 sn12 sc13], R28]) (rfl) ?_
      refine Gx.norm (l' := [Hp.own FN 1 m2.cv m2.p.cnt, Hp.own FN 1 m2.wv m2.p.wts, Hp.own FN 1 (.slice x2.a x2.n x2.c) m2.p.lst, Hp.map Try.prog 3 natL natV m2.mb m2.p.cm, Hp.rec_ m2.b [.slice x2.a x2.n x2.c, m2.cv, .map (some m2.mb), m2.wv], Hp.rec_ b27 [.slice sa21 sn22 sc23, .slice sa24 sn25 sc26], Hp.own FZ 1 (.slice sa21 sn22 sc23) (codesC (cs0 n) (cs.take x19)), Hp.own FV 1 (.slice sa24 sn25 sc26) vals2, P2, Hp.own FN 1 sx15 (sndL cs (codesC (cs0 n) cs) cs.length), Hp.rec_ b14 [.slice sa8 sn9 sc10, .slice sa11 sn12 sc13], R28]) (by rw [hmv2] <;> rfl) ?_
      refine Gx.norm (l' := [Hp.own FN 1 m2.cv pq.cnt, Hp.own FN 1 m2.wv pq.wts, Hp.own FN 1 (.slice x2.a x2.n x2.c) pq.lst, Hp.map Try.prog 3 natL natV m2.mb pq.cm, Hp.rec_ m2.b [.slice x2.a x2.n x2.c, m2.cv, .map (some m2.mb), m2.wv], Hp.rec_ b27 [.slice sa21 sn22 sc23, .slice sa24 sn25 sc26], Hp.own FZ 1 (.slice sa21 sn22 sc23) (codesC (cs0 n) (cs.take x19)), Hp.own FV 1 (.slice sa24 sn25 sc26) vals2, P2, Hp.own FN 1 sx15 (sndL cs (codesC (cs0 n) cs) cs.length), Hp.rec_ b14 [.slice sa8 sn9 sc10, .slice sa11 sn12 sc13], R28]) (by rw [hmp2] <;> rfl) ?_
      have hpl2 : pq.lst.length ≤ 1000 := by
        have h7 := (BdC.run (n := n) (cs := cs.take x19) (cs.take x19).length (Nat.le_refl _))
        rw [List.take_length] at h7
        have h8 := (h7.row pq (List.mem_of_getElem? hpq)).ll
        rw [List.length_take] at h8; omega
      refine Gx.region ?_
      refine Gx.val rfl rfl rfl (Val.cast (val_fieldAddr rfl Try.underlying26 rfl Try.ty24 rfl rfl) (v' := ptr b14 1) rfl) ?_
      refine Gx.val rfl rfl rfl (val_load rfl Try.ty24 rfl rfl (cell_rec (k := 10) rfl rfl)) ?_
      refine Gx.val rfl rfl rfl (val_len rfl Try.underlying24 rfl (len_base hdv2)) ?_
      refine Gx.val rfl rfl rfl (val_move rfl rfl) ?_
      refine Gx.done ?_
      refine Gx.thenN ?_
      refine Gx.block ?_
      refine Gx.drop 11 rfl ?_
      refine Gx.drop 8 rfl ?_
      refine Gx.drop 6 rfl ?_
      refine Gx.drop 4 rfl ?_
      refine Gx.drop 3 rfl ?_
      refine Gx.drop 1 rfl ?_
      refine Gx.drop 0 rfl ?_
      refine Gx.front 4 rfl ?_
      refine Gx.front 2 rfl ?_
      refine Gx.front 2 rfl ?_
      refine Gx.front 3 rfl ?_
      refine Gx.front 4 rfl ?_
      refine Gx.loop (ι := Nat) (fun ξ => (ξ ≤ n)) (fun ξ => [(0, .int .i64 ((n : Nat) : Int)), (1, sv), (5, ptr b14 0), (7, sx15), (10, .int .i64 ((m : Nat) : Int)), (12, ptr b27 0), (14, .int .i64 ((wq : Nat) : Int)), (68, sx15), (69, .int .i64 (((sndL cs (codesC (cs0 n) cs) cs.length).length : Nat) : Int)), (70, .int .i64 ((m : Nat) : Int)), (108, .slice sa11 sn12 sc13), (109, .int .i64 ((vals3.length : Nat) : Int)), (110, .int .i64 ((ξ : Nat) : Int))]) (fun ξ => [Hp.own FN 1 sx15 (sndL cs (codesC (cs0 n) cs) cs.length), Hp.own FV 1 (.slice sa24 sn25 sc26) vals2, Hp.own FN 1 (.slice x2.a x2.n x2.c) pq.lst, Hp.rec_ b27 [.slice sa21 sn22 sc23, .slice sa24 sn25 sc26], Hp.rec_ b14 [.slice sa8 sn9 sc10, .slice sa11 sn12 sc13]]) (fun ξ => n - ξ) 0 (by first | omega | (dsimp only; omega)) ((.cons rfl (.cons rfl (.cons rfl (.cons rfl (.cons rfl (.cons rfl (.cons rfl (.cons rfl (.cons rfl (.cons rfl (.cons rfl (.cons rfl (.cons rfl .nil)))))))))))))) rfl ?_
      rintro j hj
      refine Gx.know (m' := [(0, .int .i64 ((n : Nat) : Int)), (1, sv), (5, ptr b14 0), (7, sx15), (10, .int .i64 ((m : Nat) : Int)), (12, ptr b27 0), (14, .int .i64 ((wq : Nat) : Int)), (68, sx15), (69, .int .i64 (((sndL cs (codesC (cs0 n) cs) cs.length).length : Nat) : Int)), (70, .int .i64 ((m : Nat) : Int)), (108, .slice sa11 sn12 sc13), (109, .int .i64 ((vals3.length : Nat) : Int)), (110, .int .i64 ((j : Nat) : Int))]) (.cons rfl (.cons rfl (.cons rfl (.cons rfl (.cons rfl (.cons rfl (.cons rfl (.cons rfl (.cons rfl (.cons rfl (.cons rfl (.cons rfl (.cons rfl .nil))))))))))))) (Gx.norm (l' := [Hp.own FN 1 sx15 (sndL cs (codesC (cs0 n) cs) cs.length), Hp.own FV 1 (.slice sa24 sn25 sc26) vals2, Hp.own FN 1 (.slice x2.a x2.n x2.c) pq.lst, Hp.rec_ b27 [.slice sa21 sn22 sc23, .slice sa24 sn25 sc26], Hp.rec_ b14 [.slice sa8 sn9 sc10, .slice sa11 sn12 sc13]]) rfl ?_)
      refine Gx.seq ?_
      refine Gx.region ?_
      refine Gx.val rfl rfl rfl (val_lss rfl rfl rfl) ?_
      refine Gx.done ?_
      refine Gx.thenN ?_
      refine Gx.seq ?_
      refine Gx.dec rfl (fun h31 => ?_) (fun h31 => ?_)
      · refine Gx.skip ?_
        refine Gx.thenN ?_
        refine Gx.seq ?_
        refine Gx.block ?_
        refine Gx.seq ?_
        obtain ⟨ya, hya⟩ := get_of_lt (xs := vals3) (k := j) (by omega)
        have hrya := hrdv2 j ya hya
        have hnya := hI.lst (i := j)
        refine Gx.region ?_
        refine Gx.val rfl rfl rfl (val_ixa rfl Try.underlying24 Try.ty30 rfl rfl (j := j) (rfl) (reach_base hdv2 hya)) ?_
        refine Gx.val rfl rfl rfl (val_load rfl Try.ty30 rfl rfl (cell_base (i := 0) hdv2 hya rfl)) ?_
        refine Gx.val rfl rfl rfl (val_assign rfl rfl) ?_
        refine Gx.done ?_
        refine Gx.thenN ?_
        refine Gx.seq ?_
        refine Gx.region ?_
        refine Gx.val rfl rfl rfl (val_move rfl rfl) ?_
        refine Gx.val rfl rfl rfl (val_move rfl rfl) ?_
        refine Gx.val rfl rfl rfl (val_call (vs := [.slice ya.a ya.n ya.c, .int .i64 ((m : Nat) : Int)]) rfl Try.fn11 rfl (fun w H => pos_any (hrya.below H.below))) ?_
        refine Gx.val rfl rfl rfl (val_assign rfl rfl) ?_
        refine Gx.done ?_
        refine Gx.thenN ?_
        refine Gx.seq ?_
        refine Gx.region ?_
        refine Gx.val rfl rfl rfl (Val.cast (val_fieldAddr rfl Try.underlying26 rfl Try.ty24 rfl rfl) (v' := ptr b27 1) rfl) ?_
        refine Gx.val rfl rfl rfl (val_load rfl Try.ty24 rfl rfl (cell_rec (k := 3) rfl rfl)) ?_
        refine Gx.val rfl rfl rfl (val_move rfl rfl) ?_
        refine Gx.val rfl rfl rfl (val_ixa rfl Try.underlying24 Try.ty30 rfl rfl (j := wq) (rfl) (reach_own (k := 1) rfl hx2)) ?_
        refine Gx.val rfl rfl rfl (val_load rfl Try.ty30 rfl rfl (cell_own (i := 0) (k := 1) rfl hx2 rfl)) ?_
        refine Gx.val rfl rfl rfl (val_len rfl Try.underlying30 rfl (len_own (k := 2) rfl)) ?_
        refine Gx.val rfl rfl rfl (val_move rfl rfl) ?_
        refine Gx.done ?_
        refine Gx.thenN ?_
        refine Gx.block ?_
        refine Gx.loop (ι := Nat) (fun ξ => (ξ ≤ pq.lst.length)) (fun ξ => [(0, .int .i64 ((n : Nat) : Int)), (1, sv), (5, ptr b14 0), (7, sx15), (10, .int .i64 ((m : Nat) : Int)), (12, ptr b27 0), (14, .int .i64 ((wq : Nat) : Int)), (16, .slice ya.a ya.n ya.c), (17, .int .i64 (posI (lstC (stC (cs0 n) cs) j) m)), (68, sx15), (69, .int .i64 (((sndL cs (codesC (cs0 n) cs) cs.length).length : Nat) : Int)), (70, .int .i64 ((m : Nat) : Int)), (108, .slice sa11 sn12 sc13), (109, .int .i64 ((vals3.length : Nat) : Int)), (110, .int .i64 ((j : Nat) : Int)), (121, .slice x2.a x2.n x2.c), (122, .int .i64 ((pq.lst.length : Nat) : Int)), (123, .int .i64 ((ξ : Nat) : Int))]) (fun ξ => [Hp.own FN 1 sx15 (sndL cs (codesC (cs0 n) cs) cs.length), Hp.own FV 1 (.slice sa24 sn25 sc26) vals2, Hp.own FN 1 (.slice x2.a x2.n x2.c) pq.lst, Hp.rec_ b27 [.slice sa21 sn22 sc23, .slice sa24 sn25 sc26], Hp.rec_ b14 [.slice sa8 sn9 sc10, .slice sa11 sn12 sc13]]) (fun ξ => pq.lst.length - ξ) 0 (by first | omega | (dsimp only; omega)) ((.cons rfl (.cons rfl (.cons rfl (.cons rfl (.cons rfl (.cons rfl (.cons rfl (.cons rfl (.cons rfl (.cons rfl (.cons rfl (.cons rfl (.cons rfl (.cons rfl (.cons rfl (.cons rfl (.cons rfl (.cons rfl .nil))))))))))))))))))) rfl ?_
        rintro q hq
        refine Gx.know (m' := [(0, .int .i64 ((n : Nat) : Int)), (1, sv), (5, ptr b14 0), (7, sx15), (10, .int .i64 ((m : Nat) : Int)), (12, ptr b27 0), (14, .int .i64 ((wq : Nat) : Int)), (16, .slice ya.a ya.n ya.c), (17, .int .i64 (posI (lstC (stC (cs0 n) cs) j) m)), (68, sx15), (69, .int .i64 (((sndL cs (codesC (cs0 n) cs) cs.length).length : Nat) : Int)), (70, .int .i64 ((m : Nat) : Int)), (108, .slice sa11 sn12 sc13), (109, .int .i64 ((vals3.length : Nat) : Int)), (110, .int .i64 ((j : Nat) : Int)), (121, .slice x2.a x2.n x2.c), (122, .int .i64 ((pq.lst.length : Nat) : Int)), (123, .int .i64 ((q : Nat) : Int))]) (.cons rfl (.cons rfl (.cons rfl (.cons rfl (.cons rfl (.cons rfl (.cons rfl (.cons rfl (.cons rfl (.cons rfl (.cons rfl (.cons rfl (.cons rfl (.cons rfl (.cons rfl (.cons rfl (.cons rfl (.cons rfl .nil)))))))))))))))))) (Gx.norm (l' := [Hp.own FN 1 sx15 (sndL cs (codesC (cs0 n) cs) cs.length), Hp.own FV 1 (.slice sa24 sn25 sc26) vals2, Hp.own FN 1 (.slice x2.a x2.n x2.c) pq.lst, Hp.rec_ b27 [.slice sa21 sn22 sc23, .slice sa24 sn25 sc26], Hp.rec_ b14 [.slice sa8 sn9 sc10, .slice sa11 sn12 sc13]]) rfl ?_)
        refine Gx.seq ?_
        refine Gx.region ?_
        refine Gx.val rfl rfl rfl (val_lss rfl rfl rfl) ?_
        refine Gx.done ?_
        refine Gx.thenN ?_
        refine Gx.seq ?_
        refine Gx.dec rfl (fun h32 => ?_) (fun h32 => ?_)
        · refine Gx.skip ?_
          refine Gx.thenN ?_
          refine Gx.seq ?_
          refine Gx.block ?_
          refine Gx.seq ?_
          refine Gx.region ?_
          obtain ⟨x33, hx33⟩ := get_of_lt (xs := pq.lst) (k := q) (by omega)
          refine Gx.val rfl rfl rfl (val_ixa rfl Try.underlying30 Try.ty3 rfl rfl (j := q) (rfl) (reach_own (k := 2) rfl hx33)) ?_
          refine Gx.val rfl rfl rfl (val_load rfl Try.ty3 rfl rfl (cell_own (i := 0) (k := 2) rfl hx33 rfl)) ?_
          refine Gx.val rfl rfl rfl (val_assign rfl rfl) ?_
          refine Gx.done ?_
          refine Gx.thenN ?_
          refine Gx.seq ?_
          have hky : 0 ≤ posI (lstC (stC (cs0 n) cs) j) m → ∃ jj : Nat, posI (lstC (stC (cs0 n) cs) j) x33 = (jj : Int) ∧ (jj : Int) < posI (lstC (stC (cs0 n) cs) j) m := by
            subst hsl
            exact key_pos hI hI2 hpre (by omega) hpq ham (List.mem_of_getElem? hx33)
          refine Gx.region ?_
          refine Gx.val rfl rfl rfl (val_move rfl rfl) ?_
          refine Gx.val rfl rfl rfl (val_move rfl rfl) ?_
          refine Gx.val rfl rfl rfl (val_call (vs := [.slice ya.a ya.n ya.c, .int .i64 ((x33 : Nat) : Int)]) rfl Try.fn11 rfl (fun w H => pos_any (hrya.below H.below))) ?_
          refine Gx.val rfl rfl rfl (val_assign rfl rfl) ?_
          refine Gx.done ?_
          refine Gx.thenN ?_
          refine Gx.seq ?_
          refine Gx.region ?_
          refine Gx.val rfl rfl rfl (val_move rfl rfl) ?_
          refine Gx.val rfl rfl rfl (val_geq rfl rfl rfl) ?_
          refine Gx.val rfl rfl rfl (val_move rfl rfl) ?_
          refine Gx.cases (t := 132) rfl (fun h34 => ?_) (fun h34 => ?_)
          · obtain ⟨jj, hjj, hjm⟩ := hky h34
            refine Gx.valg rfl rfl rfl rfl rfl (val_move rfl rfl) ?_
            refine Gx.valg rfl rfl rfl rfl rfl (val_lss rfl rfl rfl) ?_
            refine Gx.valg rfl rfl rfl rfl rfl (val_move rfl rfl) ?_
            refine Gx.slot (t := 135) (v := .bool false) (look_decF rfl (by omega)) ?_
            refine Gx.valg rfl rfl rfl rfl rfl (val_move rfl rfl) ?_
            refine Gx.valg rfl rfl rfl rfl rfl (val_move rfl rfl) ?_
            refine Gx.valg rfl rfl rfl rfl rfl (val_gtr rfl rfl rfl) ?_
            refine Gx.valg rfl rfl rfl rfl rfl (val_pickF rfl rfl rfl) ?_
            refine Gx.val rfl rfl rfl (val_pickT rfl rfl rfl) ?_
            refine Gx.done ?_
            refine Gx.thenN ?_
            refine Gx.decF rfl (by omega) ?_
            refine Gx.skip ?_
            refine Gx.blkN ?_
            refine Gx.thenN ?_
            refine Gx.region ?_
            refine Gx.val rfl rfl rfl (val_add rfl rfl rfl (r := ((q + 1 : Nat) : Int)) (w64 (by omega) (by omega))) ?_
            refine Gx.val rfl rfl rfl (val_move rfl rfl) ?_
            refine Gx.done ?_
            refine Gx.thenN ?_
            exact Gx.round (q + 1) (by first | omega | (dsimp only; omega)) (by first | omega | (dsimp only; omega)) ((.cons rfl (.cons rfl (.cons rfl (.cons rfl (.cons rfl (.cons rfl (.cons rfl (.cons rfl (.cons rfl (.cons rfl (.cons rfl (.cons rfl (.cons rfl (.cons rfl (.cons rfl (.cons rfl (.cons rfl (.cons rfl .nil))))))))))))))))))) rfl
          · refine Gx.skipg rfl rfl rfl rfl rfl rfl ?_
            refine Gx.skipg rfl rfl rfl rfl rfl rfl ?_
            refine Gx.skipg rfl rfl rfl rfl rfl rfl ?_
            refine Gx.skipu rfl rfl rfl rfl rfl ?_
            refine Gx.skipu rfl rfl rfl rfl rfl ?_
            refine Gx.skipu rfl rfl rfl rfl rfl ?_
            refine Gx.skipg rfl rfl rfl rfl rfl rfl ?_
            refine Gx.val rfl rfl rfl (val_pickF rfl rfl rfl) ?_
            refine Gx.done ?_
            refine Gx.thenN ?_
            refine Gx.f rfl ?_
            refine Gx.skip ?_
            refine Gx.blkN ?_
            refine Gx.thenN ?_
            refine Gx.region ?_
            refine Gx.val rfl rfl rfl (val_add rfl rfl rfl (r := ((q + 1 : Nat) : Int)) (w64 (by omega) (by omega))) ?_
            refine Gx.val rfl rfl rfl (val_move rfl rfl) ?_
            refine Gx.done ?_
            refine Gx.thenN ?_
            exact Gx.round (q + 1) (by first | omega | (dsimp only; omega)) (by first | omega | (dsimp only; omega)) ((.cons rfl (.cons rfl (.cons rfl (.cons rfl (.cons rfl (.cons rfl (.cons rfl (.cons rfl (.cons rfl (.cons rfl (.cons rfl (.cons rfl (.cons rfl (.cons rfl (.cons rfl (.cons rfl (.cons rfl (.cons rfl .nil))))))))))))))))))) rfl
        · refine Gx.exit ?_
          refine Gx.thenE ?_
          refine Gx.thenE ?_
          refine Gx.blkE ?_
          refine Gx.blkN ?_
          refine Gx.thenN ?_
          refine Gx.region ?_
          refine Gx.val rfl rfl rfl (val_add rfl rfl rfl (r := ((j + 1 : Nat) : Int)) (w64 (by omega) (by omega))) ?_
          refine Gx.val rfl rfl rfl (val_move rfl rfl) ?_
          refine Gx.done ?_
          refine Gx.thenN ?_
          exact Gx.round (j + 1) (by first | omega | (dsimp only; omega)) (by first | omega | (dsimp only; omega)) ((.cons rfl (.cons rfl (.cons rfl (.cons rfl (.cons rfl (.cons rfl (.cons rfl (.cons rfl (.cons rfl (.cons rfl (.cons rfl (.cons rfl (.cons rfl .nil)))))))))))))) rfl
      · refine Gx.exit ?_
        refine Gx.thenE ?_
        refine Gx.thenE ?_
        refine Gx.blkE ?_
        refine Gx.blkN ?_
        refine Gx.thenN ?_
        refine Gx.region ?_
        refine Gx.val rfl rfl rfl (val_add rfl rfl rfl (r := ((m + 1 : Nat) : Int)) (w64 (by omega) (by omega))) ?_
        refine Gx.val rfl rfl rfl (val_move rfl rfl) ?_
        refine Gx.done ?_
        refine Gx.thenN ?_
        refine Gx.drop 3 rfl ?_
        refine Gx.drop 2 rfl ?_
        refine Gx.drop 1 rfl ?_
        exact Gx.round (m + 1) (by first | omega | (dsimp only; omega)) (by first | omega | (dsimp only; omega)) ((.cons rfl (.cons rfl (.cons rfl (.cons rfl (.cons rfl (.cons rfl (.cons rfl .nil)))))))) rfl
    · refine Gx.exit ?_
      refine Gx.thenE ?_
      refine Gx.thenE ?_
      refine Gx.blkE ?_
      refine Gx.thenN ?_
      refine Gx.seq ?_
      refine Gx.region ?_
      refine Gx.val rfl rfl rfl (val_assign rfl rfl) ?_
      refine Gx.done ?_
      refine Gx.thenN ?_
      refine Gx.ret ?_
      refine Gx.ret1B hW6 Try.results3 rfl ?_
      rfl

theorem order_any {W : World} {k : Int} {sv : Value} {cs : List Mv} (hs : SlS FM 3 W sv cs) : Calls Try.prog 3 #[.int .i64 k, sv] W fun e w' => e = .returned (.bool true) ∧ Below W.heap.size W w' := by
  by_cases h : k < 1 ∨ 6 < k ∨ 120 < (cs.length : Int)
  · exact order_no hs h
  · obtain ⟨n, rfl⟩ : ∃ n : Nat, k = (n : Int) := ⟨k.toNat, by omega⟩
    exact order_yes (by omega) (by omega) hs (by omega)
end Go.Proofs.Ytcjdphhofjibdaa
