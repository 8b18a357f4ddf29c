/- Its own messages. The walk. No condition. -/
import Derived.Test.YtcjdphhofjibdaaB1
namespace Go.Proofs.Ytcjdphhofjibdaa
open Go.RowKit
set_option linter.unusedVariables false
set_option linter.unusedSimpArgs false
set_option maxRecDepth 100000

theorem sent_fin {n : Nat} {cs : List Mv} : (sndL cs (codesC (cs0 n) cs) cs.length).length = (stC (cs0 n) cs).all.length ∧ ∀ m k, (sndL cs (codesC (cs0 n) cs) cs.length)[m]? = some k → ∃ (x : Mv) (w : Nat) (p : Pt), k < cs.length ∧ cs[k]? = some x ∧ x.who = (w : Int) ∧ w < n ∧ (stC (cs0 n) (cs.take k)).ps[w]? = some p ∧ (stC (cs0 n) (cs.take k)).all.length = m ∧ (stC (cs0 n) cs).all[m]? = some ⟨w, p.cnt⟩ := by
  obtain ⟨h1, h2⟩ := sent_inv (n := n) (cs := cs) cs.length (Nat.le_refl _)
  rw [List.take_length] at h1
  refine ⟨h1, fun m k hk => ?_⟩
  obtain ⟨h3, x, w, p, h4, h5, h6, h7, h8, h9⟩ := h2 m k hk
  rw [List.take_length] at h9
  exact ⟨x, w, p, h3, h4, h5, h6, h7, h8, h9⟩
/-- where the last one of each stood -/
def LastI (n : Nat) (s : CS) (m : Nat) (ls : List Nat) : Prop := ls.length = n ∧ ∀ w k, ls[w]? = some k → k = 0 ∨ ∃ m' a, m' < m ∧ s.all[m']? = some a ∧ a.frm = w ∧ (lstC s w)[k]? = some m'
theorem LastI.zero (n : Nat) (s : CS) : LastI n s 0 (List.replicate n 0) := ⟨by simp, fun w k h => .inl (List.eq_of_mem_replicate (List.mem_of_getElem? h))⟩
theorem LastI.put {n m w k : Nat} {s : CS} {ls : List Nat} {a : Ms} (h : LastI n s m ls) (ha : s.all[m]? = some a) (hf : a.frm = w) (hk : (lstC s w)[k]? = some m) : LastI n s (m + 1) (ls.set w k) := by
  refine ⟨by rw [List.length_set]; exact h.1, fun v q hq => ?_⟩
  rcases set_at hq with ⟨rfl, rfl⟩ | ⟨_, h2⟩
  · exact .inr ⟨m, a, Nat.lt_succ_self _, ha, hf, hk⟩
  · rcases h.2 v q h2 with z | ⟨m', a', h3, h4⟩
    · exact .inl z
    · exact .inr ⟨m', a', by omega, h4⟩
theorem own_pos {n m w l : Nat} {s : CS} {ls : List Nat} {a : Ms} (hI : InvC n s) (hw : w < n) (h : LastI n s m ls) (ha : s.all[m]? = some a) (hf : a.frm = w) (hl : ls[w]? = some l) : ∃ k : Nat, (lstC s w)[k]? = some m ∧ l ≤ k ∧ posI (lstC s w) m = (k : Int) := by
  obtain ⟨p, hp⟩ := get_of_lt (xs := s.ps) (k := w) (by rw [hI.len]; exact hw)
  obtain ⟨hR, _⟩ := hI.row w p hp
  have hm := hR.own m a ha hf
  have hn := hI.lst (i := w)
  rw [lstC_of hp] at hn ⊢
  obtain ⟨k, hk⟩ := List.getElem?_of_mem hm
  refine ⟨k, hk, ?_, posI_at hn.1 hk⟩
  rcases h.2 w l hl with z | ⟨m', b, h3, h4, h5, h6⟩
  · omega
  · rw [lstC_of hp] at h6
    exact Nat.le_of_lt (hI.own_lt hp h4 ha h5 hf h3 h6 hk)
theorem own_no {W : World} {k : Int} {sv : Value} {cs : List Mv} (hs : SlS FM 3 W sv cs) (hbad : k < 1 ∨ 6 < k ∨ 120 < (cs.length : Int)) :
    Calls Try.prog 6 #[.int .i64 k, sv] W fun e w' => e = .returned (.bool true) ∧ Below W.heap.size W w' := by
  refine calls_pure (Gx.enter (l := []) Try.func6 rfl Try.ntmps6 rfl (Sat.start W) ?_)
  refine Gx.know (m' := [(0, .int .i64 k), (1, sv)]) (.cons rfl (.cons rfl .nil)) ?_
  refine Gx.seq ?_
  refine Gx.region ?_
  refine Gx.val rfl rfl rfl (val_assign rfl rfl) ?_
  refine Gx.done ?_
  refine Gx.thenN ?_
  refine Gx.seq ?_
  refine Gx.region ?_
  refine Gx.val rfl rfl rfl (val_move rfl rfl) ?_
  refine Gx.val rfl rfl rfl (val_move rfl rfl) ?_
  refine Gx.val rfl rfl rfl (val_call (vs := [.int .i64 k, sv]) rfl Try.fn7 rfl (fun w H => play_no (hs.below H.below) (by omega))) ?_
  refine Gx.val rfl rfl rfl (val_move rfl rfl) ?_
  refine Gx.val rfl rfl rfl (val_extract rfl rfl rfl) ?_
  refine Gx.val rfl rfl rfl (val_extract rfl rfl rfl) ?_
  refine Gx.eff rfl rfl rfl (eff_alloc rfl Try.ty26 (vs := [.slice none 0 0, .slice none 0 0]) rfl) ?_
  rintro _ _ ⟨b1, rfl, rfl⟩
  refine Gx.eff0 rfl rfl (eff_store rfl Try.ty26 rfl rfl (us := [.slice none 0 0, .slice none 0 0]) rfl rfl rfl (k := 0) rfl (rfl) (vs' := [.slice none 0 0, .slice none 0 0]) (rfl) (l' := [Hp.rec_ b1 [.slice none 0 0, .slice none 0 0]]) rfl) ?_
  rintro _ _ rfl
  refine Gx.val rfl rfl rfl (val_assign rfl rfl) ?_
  refine Gx.done ?_
  refine Gx.thenN ?_
  refine Gx.seq ?_
  refine Gx.seq ?_
  refine Gx.region ?_
  refine Gx.val rfl rfl rfl (val_move rfl rfl) ?_
  refine Gx.val rfl rfl rfl (Val.cast (val_neq rfl rfl rfl) (v' := .bool true) rfl) ?_
  refine Gx.done ?_
  refine Gx.thenN ?_
  refine Gx.t rfl ?_
  refine Gx.seq ?_
  refine Gx.region ?_
  refine Gx.val rfl rfl rfl (Val.cast (val_fieldAddr rfl Try.underlying26 rfl Try.ty24 rfl rfl) (v' := ptr b1 1) rfl) ?_
  refine Gx.val rfl rfl rfl (val_load rfl Try.ty24 rfl rfl (cell_rec (k := 0) rfl rfl)) ?_
  refine Gx.val rfl rfl rfl (val_len rfl Try.underlying24 rfl len_lit) ?_
  refine Gx.val rfl rfl rfl (Val.cast (val_eql rfl rfl rfl) (v' := .bool true) rfl) ?_
  refine Gx.val rfl rfl rfl (val_assign rfl rfl) ?_
  refine Gx.done ?_
  refine Gx.thenN ?_
  refine Gx.ret ?_
  refine Gx.thenR ?_
  refine Gx.ret1 Try.results6 rfl ?_
  rfl

theorem own_yes {W : World} {n : Nat} {sv : Value} {cs : List Mv} (h1n : 1 ≤ n) (h6n : n ≤ 6) (hs : SlS FM 3 W sv cs) (hcl : cs.length ≤ 120) :
    Calls Try.prog 6 #[.int .i64 ((n : Nat) : Int), sv] W fun e w' => e = .returned (.bool true) ∧ Below W.heap.size W w' := by
  have hI := (InvC.zero n).run cs
  have hbl := sndL_le cs (codesC (cs0 n) cs) cs.length
  refine calls_pure (Gx.enter (l := []) Try.func6 rfl Try.ntmps6 rfl (Sat.start W) ?_)
  refine Gx.know (m' := [(0, .int .i64 ((n : Nat) : Int)), (1, sv)]) (.cons rfl (.cons rfl .nil)) ?_
  refine Gx.seq ?_
  refine Gx.region ?_
  refine Gx.val rfl rfl rfl (val_assign rfl rfl) ?_
  refine Gx.done ?_
  refine Gx.thenN ?_
  refine Gx.seq ?_
  refine Gx.region ?_
  refine Gx.val rfl rfl rfl (val_move rfl rfl) ?_
  refine Gx.val rfl rfl rfl (val_move rfl rfl) ?_
  refine Gx.callB rfl rfl rfl (vs := [.int .i64 ((n : Nat) : Int), sv]) rfl Try.fn7 rfl (R := fun v w' => ∃ (cv dv : Value) (vals : List Sv), v = .tuple #[.agg #[cv, dv], .int .i64 0] ∧ SlS FZ 1 w' cv (codesC (cs0 n) cs) ∧ SlS FV 1 w' dv vals ∧ vals.length = n ∧ ∀ (kw : Nat) (v : Sv), vals[kw]? = some v → SlS FN 1 w' (.slice v.a v.n v.c) (lstC (stC (cs0 n) cs) kw)) (fun w H => play_ok h1n h6n (hs.below H.below) (by omega)) ?_
  rintro _ W4 ⟨cv1, dv2, vals3, rfl, hcv1, hdv2, hldv2, hrdv2⟩ H5
  have hW6 := H5.below
  have hs7 := hs.below H5.below
  have hclcv1 : (codesC (cs0 n) cs).length = (cs).length := codesC_len ..
  obtain ⟨sa8, sn9, sc10, rfl⟩ := hcv1.isS
  obtain ⟨sa11, sn12, sc13, rfl⟩ := hdv2.isS
  refine Gx.val rfl rfl rfl (val_move rfl rfl) ?_
  refine Gx.val rfl rfl rfl (val_extract rfl rfl rfl) ?_
  refine Gx.val rfl rfl rfl (val_extract rfl rfl rfl) ?_
  refine Gx.eff rfl rfl rfl (eff_alloc rfl Try.ty26 (vs := [.slice none 0 0, .slice none 0 0]) rfl) ?_
  rintro _ _ ⟨b14, rfl, rfl⟩
  refine Gx.eff0 rfl rfl (eff_store rfl Try.ty26 rfl rfl (us := [.slice sa8 sn9 sc10, .slice sa11 sn12 sc13]) rfl rfl rfl (k := 0) rfl (rfl) (vs' := [.slice sa8 sn9 sc10, .slice sa11 sn12 sc13]) (rfl) (l' := [Hp.rec_ b14 [.slice sa8 sn9 sc10, .slice sa11 sn12 sc13]]) rfl) ?_
  rintro _ _ rfl
  refine Gx.val rfl rfl rfl (val_assign rfl rfl) ?_
  refine Gx.done ?_
  refine Gx.thenN ?_
  refine Gx.seq ?_
  refine Gx.seq ?_
  refine Gx.region ?_
  refine Gx.val rfl rfl rfl (val_move rfl rfl) ?_
  refine Gx.val rfl rfl rfl (Val.cast (val_neq rfl rfl rfl) (v' := .bool false) rfl) ?_
  refine Gx.done ?_
  refine Gx.thenN ?_
  refine Gx.f rfl ?_
  refine Gx.skip ?_
  refine Gx.thenN ?_
  refine Gx.seq ?_
  refine Gx.seq ?_
  refine Gx.region ?_
  refine Gx.val rfl rfl rfl (Val.cast (val_fieldAddr rfl Try.underlying26 rfl Try.ty24 rfl rfl) (v' := ptr b14 1) rfl) ?_
  refine Gx.val rfl rfl rfl (val_load rfl Try.ty24 rfl rfl (cell_rec (k := 0) rfl rfl)) ?_
  refine Gx.val rfl rfl rfl (val_len rfl Try.underlying24 rfl (len_base hdv2)) ?_
  refine Gx.val rfl rfl rfl (val_move rfl rfl) ?_
  refine Gx.val rfl rfl rfl (val_neq rfl rfl rfl) ?_
  refine Gx.val rfl rfl rfl (val_move rfl rfl) ?_
  refine Gx.slot (t := 29) (v := .bool false) (look_decF rfl (by omega)) ?_
  refine Gx.valg rfl rfl rfl rfl rfl (Val.cast (val_fieldAddr rfl Try.underlying26 rfl Try.ty23 rfl rfl) (v' := ptr b14 0) rfl) ?_
  refine Gx.valg rfl rfl rfl rfl rfl (val_load rfl Try.ty23 rfl rfl (cell_rec (k := 0) rfl rfl)) ?_
  refine Gx.valg rfl rfl rfl rfl rfl (val_len rfl Try.underlying23 rfl (len_base hcv1)) ?_
  refine Gx.valg rfl rfl rfl rfl rfl (val_move rfl rfl) ?_
  refine Gx.valg rfl rfl rfl rfl rfl (val_len rfl Try.underlying22 rfl (len_base hs7)) ?_
  refine Gx.valg rfl rfl rfl rfl rfl (val_neq rfl rfl rfl) ?_
  refine Gx.val rfl rfl rfl (val_pickF rfl rfl rfl) ?_
  refine Gx.done ?_
  refine Gx.thenN ?_
  refine Gx.decF rfl (by omega) ?_
  refine Gx.skip ?_
  refine Gx.thenN ?_
  refine Gx.seq ?_
  refine Gx.region ?_
  refine Gx.val rfl rfl rfl (val_move rfl rfl) ?_
  refine Gx.eff rfl rfl rfl (eff_makeSlice (n := n) (f := FN) rfl Try.underlying30 Try.ty3 rfl rfl (rfl) (rfl) FN_len 0 rfl (by omega) (by omega)) ?_
  rintro v15 _ ⟨hiv15, rfl⟩
  refine Gx.val rfl rfl rfl (val_assign rfl rfl) ?_
  refine Gx.done ?_
  refine Gx.thenN ?_
  refine Gx.seq ?_
  refine Gx.seq ?_
  refine Gx.region ?_
  refine Gx.val rfl rfl rfl (val_move rfl rfl) ?_
  refine Gx.val rfl rfl rfl (Val.cast (val_fieldAddr rfl Try.underlying26 rfl Try.ty23 rfl rfl) (v' := ptr b14 0) rfl) ?_
  refine Gx.val rfl rfl rfl (val_load rfl Try.ty23 rfl rfl (cell_rec (k := 1) rfl rfl)) ?_
  refine Gx.eff rfl rfl rfl (eff_call (vs := [sv, .slice sa8 sn9 sc10]) rfl Try.fn8 rfl (fun w H => sent_any (hs7) (hcv1) hclcv1 hcl H)) ?_
  rintro sx16 l17 ⟨hisx16, hl17⟩
  refine Gx.sepEq (l' := [Hp.own FN 1 sx16 (sndL cs (codesC (cs0 n) cs) cs.length), Hp.own FN 1 v15 (List.replicate n 0), Hp.rec_ b14 [.slice sa8 sn9 sc10, .slice sa11 sn12 sc13]]) hl17 ?_
  refine Gx.val rfl rfl rfl (val_len rfl Try.underlying30 rfl (len_own (k := 0) rfl)) ?_
  refine Gx.val rfl rfl rfl (val_move rfl rfl) ?_
  refine Gx.done ?_
  refine Gx.thenN ?_
  refine Gx.block ?_
  refine Gx.front 2 rfl ?_
  refine Gx.front 1 rfl ?_
  refine Gx.front 2 rfl ?_
  refine Gx.loop (ι := Nat × (List Nat)) (fun ξ => (ξ.1 ≤ (sndL cs (codesC (cs0 n) cs) cs.length).length) ∧ (LastI n (stC (cs0 n) cs) ξ.1 ξ.2)) (fun ξ => [(0, .int .i64 ((n : Nat) : Int)), (1, sv), (5, ptr b14 0), (7, v15), (42, sx16), (43, .int .i64 (((sndL cs (codesC (cs0 n) cs) cs.length).length : Nat) : Int)), (44, .int .i64 ((ξ.1 : Nat) : Int))]) (fun ξ => [Hp.own FN 1 v15 ξ.2, Hp.own FN 1 sx16 (sndL cs (codesC (cs0 n) cs) cs.length), Hp.rec_ b14 [.slice sa8 sn9 sc10, .slice sa11 sn12 sc13]]) (fun ξ => (sndL cs (codesC (cs0 n) cs) cs.length).length - ξ.1) (0, (List.replicate n 0)) ⟨by first | omega | (dsimp only; omega), LastI.zero n _⟩ ((.cons rfl (.cons rfl (.cons rfl (.cons rfl (.cons rfl (.cons rfl (.cons rfl .nil)))))))) rfl ?_
  rintro ⟨m, ls⟩ ⟨hm, hla⟩
  dsimp only at hm hla
  refine Gx.know (m' := [(0, .int .i64 ((n : Nat) : Int)), (1, sv), (5, ptr b14 0), (7, v15), (42, sx16), (43, .int .i64 (((sndL cs (codesC (cs0 n) cs) cs.length).length : Nat) : Int)), (44, .int .i64 ((m : Nat) : Int))]) (.cons rfl (.cons rfl (.cons rfl (.cons rfl (.cons rfl (.cons rfl (.cons rfl .nil))))))) (Gx.norm (l' := [Hp.own FN 1 v15 ls, Hp.own FN 1 sx16 (sndL cs (codesC (cs0 n) cs) cs.length), Hp.rec_ b14 [.slice sa8 sn9 sc10, .slice sa11 sn12 sc13]]) rfl ?_)
  refine Gx.seq ?_
  refine Gx.region ?_
  refine Gx.val rfl rfl rfl (val_lss rfl rfl rfl) ?_
  refine Gx.done ?_
  refine Gx.thenN ?_
  refine Gx.seq ?_
  refine Gx.dec rfl (fun h18 => ?_) (fun h18 => ?_)
  · refine Gx.skip ?_
    refine Gx.thenN ?_
    refine Gx.seq ?_
    refine Gx.block ?_
    refine Gx.seq ?_
    refine Gx.region ?_
    refine Gx.val rfl rfl rfl (val_move rfl rfl) ?_
    obtain ⟨x19, hx19⟩ := get_of_lt (xs := (sndL cs (codesC (cs0 n) cs) cs.length)) (k := m) (by omega)
    refine Gx.val rfl rfl rfl (val_ixa rfl Try.underlying30 Try.ty3 rfl rfl (j := m) (rfl) (reach_own (k := 1) rfl hx19)) ?_
    refine Gx.val rfl rfl rfl (val_load rfl Try.ty3 rfl rfl (cell_own (i := 0) (k := 1) rfl hx19 rfl)) ?_
    refine Gx.val rfl rfl rfl (val_assign rfl rfl) ?_
    refine Gx.val rfl rfl rfl (val_assign rfl rfl) ?_
    refine Gx.done ?_
    refine Gx.thenN ?_
    refine Gx.seq ?_
    obtain ⟨cx, wq, pq, hlt, hcx, hwq, hwn, hpq, hsl, ham⟩ := sent_fin.2 m x19 hx19
    have hll := hla.1
    obtain ⟨lx, hlx⟩ := get_of_lt (xs := ls) (k := wq) (by omega)
    obtain ⟨k, hk, hle, hpos⟩ := own_pos hI hwn hla ham rfl hlx
    obtain ⟨vx, hvx⟩ := get_of_lt (xs := vals3) (k := wq) (by omega)
    have hrx := hrdv2 wq vx hvx
    refine Gx.region ?_
    refine Gx.val rfl rfl rfl (val_move rfl rfl) ?_
    refine Gx.val rfl rfl rfl (val_move rfl rfl) ?_
    refine Gx.val rfl rfl rfl (val_ixa rfl Try.underlying22 Try.ty35 rfl rfl (j := x19) (rfl) (reach_base hs7 hcx)) ?_
    refine Gx.val rfl rfl rfl (Val.cast (val_fieldAddr rfl Try.underlying35 rfl Try.ty3 rfl rfl) (v' := ptr (sB sv) (sO sv + x19 * 3 + 1)) rfl) ?_
    refine Gx.val rfl rfl rfl (val_load rfl Try.ty3 rfl rfl (cell_base (i := 1) hs7 hcx rfl)) ?_
    refine Gx.val rfl rfl rfl (val_assign rfl rfl) ?_
    refine Gx.done ?_
    refine Gx.thenN ?_
    refine Gx.seq ?_
    refine Gx.slot (t := 10) (v := .int .i64 ((wq : Nat) : Int)) (congrArg some (congrArg (Value.int .i64) hwq)) ?_
    refine Gx.region ?_
    refine Gx.val rfl rfl rfl (Val.cast (val_fieldAddr rfl Try.underlying26 rfl Try.ty24 rfl rfl) (v' := ptr b14 1) rfl) ?_
    refine Gx.val rfl rfl rfl (val_load rfl Try.ty24 rfl rfl (cell_rec (k := 2) rfl rfl)) ?_
    refine Gx.val rfl rfl rfl (val_move rfl rfl) ?_
    refine Gx.val rfl rfl rfl (val_ixa rfl Try.underlying24 Try.ty30 rfl rfl (j := wq) (rfl) (reach_base hdv2 hvx)) ?_
    refine Gx.val rfl rfl rfl (val_load rfl Try.ty30 rfl rfl (cell_base (i := 0) hdv2 hvx rfl)) ?_
    refine Gx.val rfl rfl rfl (val_move rfl rfl) ?_
    refine Gx.val rfl rfl rfl (val_call (vs := [.slice vx.a vx.n vx.c, .int .i64 ((m : Nat) : Int)]) rfl Try.fn11 rfl (fun w H => pos_any (hrx.below H.below))) ?_
    refine Gx.val rfl rfl rfl (val_assign rfl rfl) ?_
    refine Gx.done ?_
    refine Gx.thenN ?_
    refine Gx.seq ?_
    refine Gx.seq ?_
    obtain ⟨j9, hjk⟩ : ∃ j9, j9 = k := ⟨_, rfl⟩
    refine Gx.slot (t := 11) (v := .int .i64 ((j9 : Nat) : Int)) (congrArg some (congrArg (Value.int .i64) (by rw [hpos, hjk]))) ?_
    refine Gx.region ?_
    refine Gx.val rfl rfl rfl (val_move rfl rfl) ?_
    refine Gx.val rfl rfl rfl (val_lss rfl rfl rfl) ?_
    refine Gx.val rfl rfl rfl (val_move rfl rfl) ?_
    refine Gx.slot (t := 63) (v := .bool false) (look_decF rfl (by omega)) ?_
    refine Gx.valg rfl rfl rfl rfl rfl (val_move rfl rfl) ?_
    refine Gx.valg rfl rfl rfl rfl rfl (val_move rfl rfl) ?_
    refine Gx.valg rfl rfl rfl rfl rfl (val_move rfl rfl) ?_
    refine Gx.valg rfl rfl rfl rfl rfl (val_ixa rfl Try.underlying30 Try.ty3 rfl rfl (j := wq) (rfl) (reach_own (k := 0) rfl hlx)) ?_
    refine Gx.valg rfl rfl rfl rfl rfl (val_load rfl Try.ty3 rfl rfl (cell_own (i := 0) (k := 0) rfl hlx rfl)) ?_
    refine Gx.valg rfl rfl rfl rfl rfl (val_lss rfl rfl rfl) ?_
    refine Gx.val rfl rfl rfl (val_pickF rfl rfl rfl) ?_
    refine Gx.done ?_
    refine Gx.thenN ?_
    refine Gx.decF rfl (by omega) ?_
    refine Gx.skip ?_
    refine Gx.thenN ?_
    refine Gx.region ?_
    refine Gx.val rfl rfl rfl (val_move rfl rfl) ?_
    refine Gx.val rfl rfl rfl (val_move rfl rfl) ?_
    refine Gx.val rfl rfl rfl (val_move rfl rfl) ?_
    refine Gx.val rfl rfl rfl (val_ixa rfl Try.underlying30 Try.ty3 rfl rfl (j := wq) (rfl) (reach_own (k := 0) rfl hlx)) ?_
    refine Gx.eff0 rfl rfl (eff_storeElA j9 rfl Try.ty3 rfl rfl rfl FN_one (k := 0) rfl FN_len hlx (l' := [Hp.own FN 1 v15 (ls.set wq j9), Hp.own FN 1 sx16 (sndL cs (codesC (cs0 n) cs) cs.length), Hp.rec_ b14 [.slice sa8 sn9 sc10, .slice sa11 sn12 sc13]]) rfl) ?_
    rintro _ _ rfl
    refine Gx.done ?_
    refine Gx.blkN ?_
    refine Gx.thenN ?_
    refine Gx.region ?_
    refine Gx.val rfl rfl rfl (val_add rfl rfl rfl (r := ((m + 1 : Nat) : Int)) (w64 (by omega) (by omega))) ?_
    refine Gx.val rfl rfl rfl (val_move rfl rfl) ?_
    refine Gx.done ?_
    refine Gx.thenN ?_
    exact Gx.round (m + 1, ls.set wq j9) ⟨by first | omega | (dsimp only; omega), by rw [hjk]; exact hla.put ham rfl hk⟩ (by first | omega | (dsimp only; omega)) ((.cons rfl (.cons rfl (.cons rfl (.cons rfl (.cons rfl (.cons rfl (.cons rfl .nil)))))))) rfl
  · refine Gx.exit ?_
    refine Gx.thenE ?_
    refine Gx.thenE ?_
    refine Gx.blkE ?_
    refine Gx.thenN ?_
    refine Gx.seq ?_
    refine Gx.region ?_
    refine Gx.val rfl rfl rfl (val_assign rfl rfl) ?_
    refine Gx.done ?_
    refine Gx.thenN ?_
    refine Gx.ret ?_
    refine Gx.ret1B hW6 Try.results6 rfl ?_
    rfl

theorem own_any {W : World} {k : Int} {sv : Value} {cs : List Mv} (hs : SlS FM 3 W sv cs) : Calls Try.prog 6 #[.int .i64 k, sv] W fun e w' => e = .returned (.bool true) ∧ Below W.heap.size W w' := by
  by_cases h : k < 1 ∨ 6 < k ∨ 120 < (cs.length : Int)
  · exact own_no hs h
  · obtain ⟨n, rfl⟩ : ∃ n : Nat, k = (n : Int) := ⟨k.toNat, by omega⟩
    exact own_yes (by omega) (by omega) hs (by omega)
end Go.Proofs.Ytcjdphhofjibdaa
