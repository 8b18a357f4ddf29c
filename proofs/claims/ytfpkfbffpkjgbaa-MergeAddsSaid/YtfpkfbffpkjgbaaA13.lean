/- A copy with a step done. The walk. No condition. -/
import Derived.Test.YtfpkfbffpkjgbaaD3
import Derived.Test.YtfpkfbffpkjgbaaA7
namespace Go.Proofs.Ytfpkfbffpkjgbaa
open Go.RowKit
set_option linter.unusedVariables false
set_option linter.unusedSimpArgs false
set_option maxRecDepth 100000

def mK (k : Nat) : Value → Value
  | .tuple t => (match t.toList with | .agg a :: _ => (a.toList[k]?).getD undef | _ => undef)
  | _ => undef
theorem Sat.sepAt {W w : World} {l : List Hp} {k : Nat} {p Q : Hp} (H : Sat W w (sep l * Q)) (h : l[k]? = some p) : Sat W w (p * (sep (l.eraseIdx k) * Q)) := H.cast (by rw [(sep_focus l k p h).1, Hp.mul_assoc])
section
variable {s : List Cp} {c : Cp} {i : Nat} {y : Sy}
theorem szC_pos (h : big 1 c.ad.length c.go.length = true) : szC c = (1, cp0) := if_pos h
theorem szC_neg (h : big 1 c.ad.length c.go.length = false) : szC c = (0, c) := if_neg (by rw [h]; decide)
theorem chg_k1 {v : Int} (h1 : y.kind = 1) (hv : c.cn[i]? = some v) : chg s c i y = if -1099511627776 ≤ v + y.n ∧ v + y.n ≤ 1099511627776 then szC ⟨c.cn.set i (v + y.n), c.la, c.ad, c.go⟩ else (1, cp0) := by
  unfold chg; rw [if_pos h1, show c.cn.getD i 0 = v by rw [List.getD_eq_getElem?_getD, hv]; rfl]
theorem chg_k2 (h2 : y.kind = 2) : chg s c i y = if 1000 < c.la.n + 1 then (1, cp0) else szC ⟨c.cn, ⟨c.la.n + 1, y.who, y.n⟩, c.ad, c.go⟩ := by
  unfold chg; rw [if_neg (by omega), if_pos h2]
theorem chg_k3 (h3 : y.kind = 3) : chg s c i y = szC ⟨c.cn, c.la, uni c.ad [⟨y.item, y.who, nxt c.ad y.who⟩], c.go⟩ := by
  unfold chg; rw [if_neg (by omega), if_neg (by omega), if_pos h3]
theorem chg_k4 (h4 : y.kind = 4) : chg s c i y = szC ⟨c.cn, c.la, c.ad, uni c.go (c.ad.filter fun d => !decide (d.item ≠ y.item))⟩ := by
  unfold chg; rw [if_neg (by omega), if_neg (by omega), if_neg (by omega), if_pos h4]
theorem chg_k5 {j : Nat} {b : Cp} (h5 : y.kind = 5) (hj : y.frm = (j : Int)) (hb : s[j]? = some b) : chg s c i y = mergeC c b := by
  unfold chg; rw [if_neg (by omega), if_neg (by omega), if_neg (by omega), if_neg (by omega), hj, Int.toNat_natCast, show s.getD j cp0 = b by rw [List.getD_eq_getElem?_getD, hb]; rfl]
end
/-- what a change hands back -/
def ChgP (ms : List Cm) (m : Cm) (i : Nat) (y : Sy) (u : Value) (l9 : List Hp) : Prop := ∃ (m' : Cm) (code : Int), u = .tuple #[.agg #[.slice m'.p.a m'.p.n m'.p.c, .int .i64 m'.c.la.n, .int .i64 m'.c.la.who, .int .i64 m'.c.la.val, .slice m'.q.a m'.q.n m'.q.c, .slice m'.r.a m'.r.n m'.r.c], .int .i64 code] ∧
  (chg (ms.map Cm.c) m.c i y).1 = code ∧ (code = 0 → (chg (ms.map Cm.c) m.c i y).2 = m'.c ∧ ∀ (W w : World) (R : Hp), Sat W w (rowsH m * (sep l9 * R)) → Sat W w (rowsH m' * R))
set_option maxHeartbeats 2000000 in
theorem change_any {W : World} {v : Value} {ms : List Cm} {y : Sy} {i n : Nat} {m : Cm} {K : Int} (hv : SlS FC 6 W v ms) (hrows : ∀ m ∈ ms, RowsS W m) (hbd : BdM n K (ms.map Cm.c)) (hn6 : n ≤ 6) (h0 : 0 ≤ K) (hK : K ≤ 1000) (hw : wrongC n y = 0) (hwho : y.who = (i : Int)) (hm : ms[i]? = some m) :
    Calls Try.prog 23 #[v, .agg #[.int .i64 y.kind, .int .i64 y.who, .int .i64 y.frm, .int .i64 y.item, .int .i64 y.n]] W (Ret W (ChgP ms m i y)) := by
  have hbm := hbd.all _ (List.mem_map_of_mem (List.mem_of_getElem? hm))
  obtain ⟨hrp, hrq, hrr⟩ := hrows m (List.mem_of_getElem? hm)
  obtain ⟨wf1, wf2, wf3, wf4, wf5, wf6⟩ := wrong_facts hw
  have hlen := hbd.len
  rw [List.length_map] at hlen
  have hbc := hbm.cn
  have hba := hbm.al
  have hbg := hbm.gl
  have hbl := hbm.la
  refine Gx.enter (l := []) Try.func23 rfl Try.ntmps23 rfl (Sat.start W) ?_
  refine Gx.know (m' := [(0, v), (1, .agg #[.int .i64 y.kind, .int .i64 y.who, .int .i64 y.frm, .int .i64 y.item, .int .i64 y.n])]) (.cons rfl (.cons rfl .nil)) ?_
  refine Gx.seq ?_
  refine Gx.region ?_
  refine Gx.eff rfl rfl rfl (eff_box rfl rfl (vs := [.int .i64 y.kind, .int .i64 y.who, .int .i64 y.frm, .int .i64 y.item, .int .i64 y.n]) rfl) ?_
  rintro _ _ ⟨b1, rfl, rfl⟩
  refine Gx.eff rfl rfl rfl (eff_alloc rfl Try.ty27 (vs := [.slice none 0 0, .int .i64 0, .int .i64 0, .int .i64 0, .slice none 0 0, .slice none 0 0]) rfl) ?_
  rintro _ _ ⟨b2, rfl, rfl⟩
  refine Gx.val rfl rfl rfl (val_assign rfl rfl) ?_
  refine Gx.done ?_
  refine Gx.thenN ?_
  refine Gx.seq ?_
  refine Gx.region ?_
  refine Gx.val rfl rfl rfl (val_move rfl rfl) ?_
  refine Gx.val rfl rfl rfl (Val.cast (val_fieldAddr rfl Try.underlying42 rfl Try.ty3 rfl rfl) (v' := ptr b1 1) rfl) ?_
  refine Gx.val rfl rfl rfl (val_load rfl Try.ty3 rfl rfl (cell_rec (k := 1) rfl rfl)) ?_
  refine Gx.val rfl rfl rfl (val_ixa rfl Try.underlying35 Try.ty27 rfl rfl (j := i) (by omega) (reach_base hv hm)) ?_
  refine Gx.val rfl rfl rfl (Val.cast (val_loadA rfl Try.ty27 rfl rfl rfl (cells_base hv hm)) (v' := .agg #[.slice m.p.a m.p.n m.p.c, .int .i64 m.c.la.n, .int .i64 m.c.la.who, .int .i64 m.c.la.val, .slice m.q.a m.q.n m.q.c, .slice m.r.a m.r.n m.r.c]) rfl) ?_
  refine Gx.eff rfl rfl rfl (eff_alloc rfl Try.ty27 (vs := [.slice none 0 0, .int .i64 0, .int .i64 0, .int .i64 0, .slice none 0 0, .slice none 0 0]) rfl) ?_
  rintro _ _ ⟨b3, rfl, rfl⟩
  refine Gx.eff0 rfl rfl (eff_store rfl Try.ty27 rfl rfl (us := [.slice m.p.a m.p.n m.p.c, .int .i64 m.c.la.n, .int .i64 m.c.la.who, .int .i64 m.c.la.val, .slice m.q.a m.q.n m.q.c, .slice m.r.a m.r.n m.r.c]) rfl rfl rfl (k := 0) rfl (rfl) (vs' := [.slice m.p.a m.p.n m.p.c, .int .i64 m.c.la.n, .int .i64 m.c.la.who, .int .i64 m.c.la.val, .slice m.q.a m.q.n m.q.c, .slice m.r.a m.r.n m.r.c]) (rfl) (l' := [Hp.rec_ b3 [.slice m.p.a m.p.n m.p.c, .int .i64 m.c.la.n, .int .i64 m.c.la.who, .int .i64 m.c.la.val, .slice m.q.a m.q.n m.q.c, .slice m.r.a m.r.n m.r.c], Hp.rec_ b2 [.slice none 0 0, .int .i64 0, .int .i64 0, .int .i64 0, .slice none 0 0, .slice none 0 0], Hp.rec_ b1 [.int .i64 y.kind, .int .i64 y.who, .int .i64 y.frm, .int .i64 y.item, .int .i64 y.n]]) rfl) ?_
  rintro _ _ rfl
  refine Gx.done ?_
  refine Gx.thenN ?_
  refine Gx.seq ?_
  refine Gx.region ?_
  refine Gx.val rfl rfl rfl (Val.cast (val_fieldAddr rfl Try.underlying27 rfl Try.ty22 rfl rfl) (v' := ptr b3 0) rfl) ?_
  refine Gx.val rfl rfl rfl (val_load rfl Try.ty22 rfl rfl (cell_rec (k := 0) rfl rfl)) ?_
  refine Gx.eff rfl rfl rfl (eff_callV1 (S := IsS) (p := fun v => Hp.own FI 1 v m.c.cn) (vs := [.slice m.p.a m.p.n m.p.c]) rfl Try.fn36 rfl (fun w H => cloneI_any (hrp.below H.below) (by omega))) ?_
  rintro cv4 _ ⟨hicv4, rfl⟩
  refine Gx.norm (l' := [Hp.own FI 1 cv4 m.c.cn, Hp.rec_ b3 [.slice m.p.a m.p.n m.p.c, .int .i64 m.c.la.n, .int .i64 m.c.la.who, .int .i64 m.c.la.val, .slice m.q.a m.q.n m.q.c, .slice m.r.a m.r.n m.r.c], Hp.rec_ b2 [.slice none 0 0, .int .i64 0, .int .i64 0, .int .i64 0, .slice none 0 0, .slice none 0 0], Hp.rec_ b1 [.int .i64 y.kind, .int .i64 y.who, .int .i64 y.frm, .int .i64 y.item, .int .i64 y.n]]) rfl ?_
  refine Gx.val rfl rfl rfl (Val.cast (val_fieldAddr rfl Try.underlying27 rfl Try.ty22 rfl rfl) (v' := ptr b3 0) rfl) ?_
  refine Gx.eff0 rfl rfl (eff_store rfl Try.ty22 rfl rfl (us := [cv4]) hicv4.cellsL rfl hicv4.all (k := 1) rfl (rfl) (vs' := [cv4, .int .i64 m.c.la.n, .int .i64 m.c.la.who, .int .i64 m.c.la.val, .slice m.q.a m.q.n m.q.c, .slice m.r.a m.r.n m.r.c]) (rfl) (l' := [Hp.own FI 1 cv4 m.c.cn, Hp.rec_ b3 [cv4, .int .i64 m.c.la.n, .int .i64 m.c.la.who, .int .i64 m.c.la.val, .slice m.q.a m.q.n m.q.c, .slice m.r.a m.r.n m.r.c], Hp.rec_ b2 [.slice none 0 0, .int .i64 0, .int .i64 0, .int .i64 0, .slice none 0 0, .slice none 0 0], Hp.rec_ b1 [.int .i64 y.kind, .int .i64 y.who, .int .i64 y.frm, .int .i64 y.item, .int .i64 y.n]]) rfl) ?_
  rintro _ _ rfl
  refine Gx.done ?_
  refine Gx.thenN ?_
  refine Gx.seq ?_
  refine Gx.seq ?_
  refine Gx.region ?_
  refine Gx.val rfl rfl rfl (Val.cast (val_fieldAddr rfl Try.underlying42 rfl Try.ty3 rfl rfl) (v' := ptr b1 0) rfl) ?_
  refine Gx.val rfl rfl rfl (val_load rfl Try.ty3 rfl rfl (cell_rec (k := 3) rfl rfl)) ?_
  refine Gx.done ?_
  refine Gx.thenN ?_
  refine Gx.block ?_
  refine Gx.seq ?_
  refine Gx.region ?_
  refine Gx.val rfl rfl rfl (val_eql rfl rfl rfl) ?_
  refine Gx.val rfl rfl rfl (val_assign rfl rfl) ?_
  refine Gx.done ?_
  refine Gx.thenN ?_
  refine Gx.dec rfl (fun h5 => ?_) (fun h5 => ?_)
  · refine Gx.seq ?_
    obtain ⟨v0, hv0⟩ := get_of_lt (xs := m.c.cn) (k := i) (by omega)
    have hvb := hbm.cv v0 (List.mem_of_getElem? hv0)
    refine Gx.regionO (fun j => false) 10 [0, 1, 2, 3, 4, 5, 6, 7, 8, 9] (fun _ => [Hp.own FI 1 cv4 m.c.cn, Hp.rec_ b3 [cv4, .int .i64 m.c.la.n, .int .i64 m.c.la.who, .int .i64 m.c.la.val, .slice m.q.a m.q.n m.q.c, .slice m.r.a m.r.n m.r.c], Hp.rec_ b2 [.slice none 0 0, .int .i64 0, .int .i64 0, .int .i64 0, .slice none 0 0, .slice none 0 0], Hp.rec_ b1 [.int .i64 y.kind, .int .i64 y.who, .int .i64 y.frm, .int .i64 y.item, .int .i64 y.n]]) Try.mixed (by kernel_rfl) rfl ?_
    refine Gw.val rfl rfl rfl rfl rfl (fun us => Val.cast (val_fieldAddr rfl Try.underlying27 rfl Try.ty22 rfl rfl) (v' := ptr b3 0) rfl) ?_
    refine Gw.val0 rfl rfl rfl (by kernel_rfl) rfl rfl (val_load rfl Try.ty22 rfl rfl (cell_rec (k := 1) rfl rfl)) ?_
    refine Gw.val rfl rfl rfl rfl rfl (fun us => Val.cast (val_fieldAddr rfl Try.underlying42 rfl Try.ty3 rfl rfl) (v' := ptr b1 1) rfl) ?_
    refine Gw.val0 rfl rfl rfl (by kernel_rfl) rfl rfl (val_load rfl Try.ty3 rfl rfl (cell_rec (k := 3) rfl rfl)) ?_
    refine Gw.val0 rfl rfl rfl (by kernel_rfl) rfl rfl (val_ixa rfl Try.underlying22 Try.ty2 rfl rfl (j := i) (by omega) (reach_own (k := 0) rfl hv0)) ?_
    refine Gw.val0 rfl rfl rfl (by kernel_rfl) rfl rfl (val_load rfl Try.ty2 rfl rfl (cell_own (i := 0) (k := 0) rfl hv0 rfl)) ?_
    refine Gw.val rfl rfl rfl rfl rfl (fun us => Val.cast (val_fieldAddr rfl Try.underlying42 rfl Try.ty2 rfl rfl) (v' := ptr b1 4) rfl) ?_
    refine Gw.val0 rfl rfl rfl (by kernel_rfl) rfl rfl (val_load rfl Try.ty2 rfl rfl (cell_rec (k := 3) rfl rfl)) ?_
    refine Gw.val rfl rfl rfl rfl rfl (fun us => val_add rfl rfl rfl (r := (v0 + y.n)) (w64 rfl (by omega))) ?_
    refine Gw.val0 rfl rfl rfl (by kernel_rfl) rfl rfl (val_ixa rfl Try.underlying22 Try.ty2 rfl rfl (j := i) (by omega) (reach_own (k := 0) rfl hv0)) ?_
    refine Gw.done ?_
    refine Gx.norm (l' := [Hp.own FI 1 cv4 m.c.cn, Hp.rec_ b3 [cv4, .int .i64 m.c.la.n, .int .i64 m.c.la.who, .int .i64 m.c.la.val, .slice m.q.a m.q.n m.q.c, .slice m.r.a m.r.n m.r.c], Hp.rec_ b2 [.slice none 0 0, .int .i64 0, .int .i64 0, .int .i64 0, .slice none 0 0, .slice none 0 0], Hp.rec_ b1 [.int .i64 y.kind, .int .i64 y.who, .int .i64 y.frm, .int .i64 y.item, .int .i64 y.n]]) rfl ?_
    refine Gx.eff0 rfl rfl (eff_storeElA (v0 + y.n) rfl Try.ty2 rfl rfl rfl FI_one (k := 0) rfl FI_len hv0 (l' := [Hp.own FI 1 cv4 ((m.c.cn).set i (v0 + y.n)), Hp.rec_ b3 [cv4, .int .i64 m.c.la.n, .int .i64 m.c.la.who, .int .i64 m.c.la.val, .slice m.q.a m.q.n m.q.c, .slice m.r.a m.r.n m.r.c], Hp.rec_ b2 [.slice none 0 0, .int .i64 0, .int .i64 0, .int .i64 0, .slice none 0 0, .slice none 0 0], Hp.rec_ b1 [.int .i64 y.kind, .int .i64 y.who, .int .i64 y.frm, .int .i64 y.item, .int .i64 y.n]]) rfl) ?_
    rintro _ _ rfl
    refine Gx.done ?_
    refine Gx.thenN ?_
    refine Gx.seq ?_
    refine Gx.region ?_
    refine Gx.val rfl rfl rfl (Val.cast (val_fieldAddr rfl Try.underlying27 rfl Try.ty22 rfl rfl) (v' := ptr b3 0) rfl) ?_
    refine Gx.val rfl rfl rfl (val_load rfl Try.ty22 rfl rfl (cell_rec (k := 1) rfl rfl)) ?_
    refine Gx.val rfl rfl rfl (Val.cast (val_fieldAddr rfl Try.underlying42 rfl Try.ty3 rfl rfl) (v' := ptr b1 1) rfl) ?_
    refine Gx.val rfl rfl rfl (val_load rfl Try.ty3 rfl rfl (cell_rec (k := 3) rfl rfl)) ?_
    refine Gx.val rfl rfl rfl (val_ixa rfl Try.underlying22 Try.ty2 rfl rfl (j := i) (by omega) (reach_own (k := 0) rfl (List.getElem?_set_self (List.getElem?_eq_some_iff.1 hv0).1))) ?_
    refine Gx.val rfl rfl rfl (val_load rfl Try.ty2 rfl rfl (cell_own (i := 0) (k := 0) rfl (List.getElem?_set_self (List.getElem?_eq_some_iff.1 hv0).1) rfl)) ?_
    refine Gx.val rfl rfl rfl (val_call (vs := [.int .i64 (v0 + y.n)]) rfl Try.fn30 rfl (fun w H => within_any (v0 + y.n))) ?_
    refine Gx.val rfl rfl rfl (val_notD rfl rfl) ?_
    refine Gx.done ?_
    refine Gx.thenN ?_
    refine Gx.dec rfl (fun h6 => ?_) (fun h6 => ?_)
    · refine Gx.seq ?_
      refine Gx.region ?_
      refine Gx.val rfl rfl rfl (Val.cast (val_loadA rfl Try.ty27 rfl rfl rfl (cells_rec (k := 1) rfl)) (v' := .agg #[cv4, .int .i64 m.c.la.n, .int .i64 m.c.la.who, .int .i64 m.c.la.val, .slice m.q.a m.q.n m.q.c, .slice m.r.a m.r.n m.r.c]) rfl) ?_
      refine Gx.eff0 rfl rfl (eff_store rfl Try.ty27 rfl rfl (us := [cv4, .int .i64 m.c.la.n, .int .i64 m.c.la.who, .int .i64 m.c.la.val, .slice m.q.a m.q.n m.q.c, .slice m.r.a m.r.n m.r.c]) rfl rfl (by simp only [List.all_cons, List.all_nil, Bool.true_and, Bool.and_true, IsS.one hicv4] <;> rfl) (k := 2) rfl (rfl) (vs' := [cv4, .int .i64 m.c.la.n, .int .i64 m.c.la.who, .int .i64 m.c.la.val, .slice m.q.a m.q.n m.q.c, .slice m.r.a m.r.n m.r.c]) (rfl) (l' := [Hp.own FI 1 cv4 ((m.c.cn).set i (v0 + y.n)), Hp.rec_ b3 [cv4, .int .i64 m.c.la.n, .int .i64 m.c.la.who, .int .i64 m.c.la.val, .slice m.q.a m.q.n m.q.c, .slice m.r.a m.r.n m.r.c], Hp.rec_ b2 [cv4, .int .i64 m.c.la.n, .int .i64 m.c.la.who, .int .i64 m.c.la.val, .slice m.q.a m.q.n m.q.c, .slice m.r.a m.r.n m.r.c], Hp.rec_ b1 [.int .i64 y.kind, .int .i64 y.who, .int .i64 y.frm, .int .i64 y.item, .int .i64 y.n]]) rfl) ?_
      rintro _ _ rfl
      refine Gx.val rfl rfl rfl (val_assign rfl rfl) ?_
      refine Gx.done ?_
      refine Gx.thenN ?_
      refine Gx.ret ?_
      refine Gx.blkR ?_
      refine Gx.thenR ?_
      refine Gx.drop 3 rfl ?_
      refine Gx.drop 1 rfl ?_
      refine Gx.front 1 rfl ?_
      refine Gx.front 1 rfl ?_
      obtain ⟨sa7, sn8, sc9, rfl⟩ := hicv4
      refine Gx.norm (l' := [Hp.own FI 1 (.slice sa7 sn8 sc9) ((m.c.cn).set i (v0 + y.n)), Hp.rec_ b2 [.slice sa7 sn8 sc9, .int .i64 m.c.la.n, .int .i64 m.c.la.who, .int .i64 m.c.la.val, .slice m.q.a m.q.n m.q.c, .slice m.r.a m.r.n m.r.c]]) rfl ?_
      refine Gx.retC2d Try.results23 Try.ty27 rfl rfl (us := [.slice sa7 sn8 sc9, .int .i64 m.c.la.n, .int .i64 m.c.la.who, .int .i64 m.c.la.val, .slice m.q.a m.q.n m.q.c, .slice m.r.a m.r.n m.r.c]) rfl (k := 1) rfl rfl ?_
      have hch : chg (ms.map Cm.c) m.c i y = (1, cp0) := by rw [chg_k1 h5 hv0, if_neg (by omega)]
      exact ⟨⟨⟨sa7, sn8, sc9⟩, ⟨m.q.a, m.q.n, m.q.c⟩, ⟨m.r.a, m.r.n, m.r.c⟩, ⟨(m.c.cn.set i (v0 + y.n)), m.c.la, m.c.ad, m.c.go⟩⟩, 1, rfl, by rw [hch], fun h => absurd h (by decide)⟩
    refine Gx.skip ?_
    refine Gx.blkN ?_
    refine Gx.thenN ?_
    refine Gx.seq ?_
    refine Gx.seq ?_
    refine Gx.region ?_
    refine Gx.val rfl rfl rfl (Val.cast (val_loadA rfl Try.ty27 rfl rfl rfl (cells_rec (k := 1) rfl)) (v' := .agg #[cv4, .int .i64 m.c.la.n, .int .i64 m.c.la.who, .int .i64 m.c.la.val, .slice m.q.a m.q.n m.q.c, .slice m.r.a m.r.n m.r.c]) rfl) ?_
    refine Gx.val rfl rfl rfl (val_call (vs := [.int .i64 1, .agg #[cv4, .int .i64 m.c.la.n, .int .i64 m.c.la.who, .int .i64 m.c.la.val, .slice m.q.a m.q.n m.q.c, .slice m.r.a m.r.n m.r.c]]) rfl Try.fn28 rfl (fun w H => size_any (n := 1) (s := m.c.la) hicv4 (hrq.below H.below) (hrr.below H.below))) ?_
    refine Gx.done ?_
    refine Gx.thenN ?_
    refine Gx.bool rfl (fun h10 => ?_) (fun h10 => ?_)
    · refine Gx.seq ?_
      refine Gx.region ?_
      refine Gx.val rfl rfl rfl (Val.cast (val_loadA rfl Try.ty27 rfl rfl rfl (cells_rec (k := 1) rfl)) (v' := .agg #[cv4, .int .i64 m.c.la.n, .int .i64 m.c.la.who, .int .i64 m.c.la.val, .slice m.q.a m.q.n m.q.c, .slice m.r.a m.r.n m.r.c]) rfl) ?_
      refine Gx.eff0 rfl rfl (eff_store rfl Try.ty27 rfl rfl (us := [cv4, .int .i64 m.c.la.n, .int .i64 m.c.la.who, .int .i64 m.c.la.val, .slice m.q.a m.q.n m.q.c, .slice m.r.a m.r.n m.r.c]) rfl rfl (by simp only [List.all_cons, List.all_nil, Bool.true_and, Bool.and_true, IsS.one hicv4] <;> rfl) (k := 2) rfl (rfl) (vs' := [cv4, .int .i64 m.c.la.n, .int .i64 m.c.la.who, .int .i64 m.c.la.val, .slice m.q.a m.q.n m.q.c, .slice m.r.a m.r.n m.r.c]) (rfl) (l' := [Hp.own FI 1 cv4 ((m.c.cn).set i (v0 + y.n)), Hp.rec_ b3 [cv4, .int .i64 m.c.la.n, .int .i64 m.c.la.who, .int .i64 m.c.la.val, .slice m.q.a m.q.n m.q.c, .slice m.r.a m.r.n m.r.c], Hp.rec_ b2 [cv4, .int .i64 m.c.la.n, .int .i64 m.c.la.who, .int .i64 m.c.la.val, .slice m.q.a m.q.n m.q.c, .slice m.r.a m.r.n m.r.c], Hp.rec_ b1 [.int .i64 y.kind, .int .i64 y.who, .int .i64 y.frm, .int .i64 y.item, .int .i64 y.n]]) rfl) ?_
      rintro _ _ rfl
      refine Gx.val rfl rfl rfl (val_assign rfl rfl) ?_
      refine Gx.done ?_
      refine Gx.thenN ?_
      refine Gx.ret ?_
      refine Gx.thenR ?_
      refine Gx.drop 3 rfl ?_
      refine Gx.drop 1 rfl ?_
      refine Gx.front 1 rfl ?_
      refine Gx.front 1 rfl ?_
      obtain ⟨sa11, sn12, sc13, rfl⟩ := hicv4
      refine Gx.norm (l' := [Hp.own FI 1 (.slice sa11 sn12 sc13) ((m.c.cn).set i (v0 + y.n)), Hp.rec_ b2 [.slice sa11 sn12 sc13, .int .i64 m.c.la.n, .int .i64 m.c.la.who, .int .i64 m.c.la.val, .slice m.q.a m.q.n m.q.c, .slice m.r.a m.r.n m.r.c]]) rfl ?_
      refine Gx.retC2d Try.results23 Try.ty27 rfl rfl (us := [.slice sa11 sn12 sc13, .int .i64 m.c.la.n, .int .i64 m.c.la.who, .int .i64 m.c.la.val, .slice m.q.a m.q.n m.q.c, .slice m.r.a m.r.n m.r.c]) rfl (k := 1) rfl rfl ?_
      have hch : chg (ms.map Cm.c) m.c i y = (1, cp0) := by rw [chg_k1 h5 hv0, if_pos (by omega), szC_pos (c := ⟨(m.c.cn.set i (v0 + y.n)), m.c.la, m.c.ad, m.c.go⟩) h10]
      exact ⟨⟨⟨sa11, sn12, sc13⟩, ⟨m.q.a, m.q.n, m.q.c⟩, ⟨m.r.a, m.r.n, m.r.c⟩, ⟨(m.c.cn.set i (v0 + y.n)), m.c.la, m.c.ad, m.c.go⟩⟩, 1, rfl, by rw [hch], fun h => absurd h (by decide)⟩
    refine Gx.skip ?_
    refine Gx.thenN ?_
    refine Gx.seq ?_
    refine Gx.region ?_
    refine Gx.val rfl rfl rfl (Val.cast (val_loadA rfl Try.ty27 rfl rfl rfl (cells_rec (k := 1) rfl)) (v' := .agg #[cv4, .int .i64 m.c.la.n, .int .i64 m.c.la.who, .int .i64 m.c.la.val, .slice m.q.a m.q.n m.q.c, .slice m.r.a m.r.n m.r.c]) rfl) ?_
    refine Gx.eff0 rfl rfl (eff_store rfl Try.ty27 rfl rfl (us := [cv4, .int .i64 m.c.la.n, .int .i64 m.c.la.who, .int .i64 m.c.la.val, .slice m.q.a m.q.n m.q.c, .slice m.r.a m.r.n m.r.c]) rfl rfl (by simp only [List.all_cons, List.all_nil, Bool.true_and, Bool.and_true, IsS.one hicv4] <;> rfl) (k := 2) rfl (rfl) (vs' := [cv4, .int .i64 m.c.la.n, .int .i64 m.c.la.who, .int .i64 m.c.la.val, .slice m.q.a m.q.n m.q.c, .slice m.r.a m.r.n m.r.c]) (rfl) (l' := [Hp.own FI 1 cv4 ((m.c.cn).set i (v0 + y.n)), Hp.rec_ b3 [cv4, .int .i64 m.c.la.n, .int .i64 m.c.la.who, .int .i64 m.c.la.val, .slice m.q.a m.q.n m.q.c, .slice m.r.a m.r.n m.r.c], Hp.rec_ b2 [cv4, .int .i64 m.c.la.n, .int .i64 m.c.la.who, .int .i64 m.c.la.val, .slice m.q.a m.q.n m.q.c, .slice m.r.a m.r.n m.r.c], Hp.rec_ b1 [.int .i64 y.kind, .int .i64 y.who, .int .i64 y.frm, .int .i64 y.item, .int .i64 y.n]]) rfl) ?_
    rintro _ _ rfl
    refine Gx.val rfl rfl rfl (val_assign rfl rfl) ?_
    refine Gx.done ?_
    refine Gx.thenN ?_
    refine Gx.ret ?_
    refine Gx.drop 3 rfl ?_
    refine Gx.drop 1 rfl ?_
    refine Gx.front 1 rfl ?_
    refine Gx.front 1 rfl ?_
    obtain ⟨sa14, sn15, sc16, rfl⟩ := hicv4
    refine Gx.norm (l' := [Hp.own FI 1 (.slice sa14 sn15 sc16) ((m.c.cn).set i (v0 + y.n)), Hp.rec_ b2 [.slice sa14 sn15 sc16, .int .i64 m.c.la.n, .int .i64 m.c.la.who, .int .i64 m.c.la.val, .slice m.q.a m.q.n m.q.c, .slice m.r.a m.r.n m.r.c]]) rfl ?_
    refine Gx.retC2d Try.results23 Try.ty27 rfl rfl (us := [.slice sa14 sn15 sc16, .int .i64 m.c.la.n, .int .i64 m.c.la.who, .int .i64 m.c.la.val, .slice m.q.a m.q.n m.q.c, .slice m.r.a m.r.n m.r.c]) rfl (k := 1) rfl rfl ?_
    have hch : chg (ms.map Cm.c) m.c i y = (0, ⟨(m.c.cn.set i (v0 + y.n)), m.c.la, m.c.ad, m.c.go⟩) := by rw [chg_k1 h5 hv0, if_pos (by omega), szC_neg (c := ⟨(m.c.cn.set i (v0 + y.n)), m.c.la, m.c.ad, m.c.go⟩) h10]
    exact ⟨⟨⟨sa14, sn15, sc16⟩, ⟨m.q.a, m.q.n, m.q.c⟩, ⟨m.r.a, m.r.n, m.r.c⟩, ⟨(m.c.cn.set i (v0 + y.n)), m.c.la, m.c.ad, m.c.go⟩⟩, 0, rfl, by rw [hch], fun _ => ⟨by rw [hch], fun W w R H => ent_p H⟩⟩
  refine Gx.seq ?_
  refine Gx.region ?_
  refine Gx.val rfl rfl rfl (val_eql rfl rfl rfl) ?_
  refine Gx.val rfl rfl rfl (val_assign rfl rfl) ?_
  refine Gx.done ?_
  refine Gx.thenN ?_
  refine Gx.dec rfl (fun h17 => ?_) (fun h17 => ?_)
  · refine Gx.seq ?_
    refine Gx.region ?_
    refine Gx.val rfl rfl rfl (Val.cast (val_fieldAddr rfl Try.underlying27 rfl Try.ty24 rfl rfl) (v' := ptr b3 1) rfl) ?_
    refine Gx.val rfl rfl rfl (Val.cast (val_fieldAddr rfl Try.underlying24 rfl Try.ty3 rfl rfl) (v' := ptr b3 1) rfl) ?_
    refine Gx.val rfl rfl rfl (val_load rfl Try.ty3 rfl rfl (cell_rec (k := 1) rfl rfl)) ?_
    refine Gx.val rfl rfl rfl (val_add rfl rfl rfl (r := (m.c.la.n + 1)) (w64 rfl (by omega))) ?_
    refine Gx.val rfl rfl rfl (Val.cast (val_fieldAddr rfl Try.underlying42 rfl Try.ty3 rfl rfl) (v' := ptr b1 1) rfl) ?_
    refine Gx.val rfl rfl rfl (val_load rfl Try.ty3 rfl rfl (cell_rec (k := 3) rfl rfl)) ?_
    refine Gx.val rfl rfl rfl (Val.cast (val_fieldAddr rfl Try.underlying42 rfl Try.ty2 rfl rfl) (v' := ptr b1 4) rfl) ?_
    refine Gx.val rfl rfl rfl (val_load rfl Try.ty2 rfl rfl (cell_rec (k := 3) rfl rfl)) ?_
    refine Gx.val rfl rfl rfl (val_build rfl (qs := [(0, .int .i64 (m.c.la.n + 1)), (1, .int .i64 y.who), (2, .int .i64 y.n)]) rfl rfl (fun w => by go_simp) (v := .agg #[.int .i64 (m.c.la.n + 1), .int .i64 y.who, .int .i64 y.n])) ?_
    refine Gx.val rfl rfl rfl (Val.cast (val_fieldAddr rfl Try.underlying27 rfl Try.ty24 rfl rfl) (v' := ptr b3 1) rfl) ?_
    refine Gx.eff0 rfl rfl (eff_store rfl Try.ty24 rfl rfl (us := [.int .i64 (m.c.la.n + 1), .int .i64 y.who, .int .i64 y.n]) rfl rfl rfl (k := 1) rfl (rfl) (vs' := [cv4, .int .i64 (m.c.la.n + 1), .int .i64 y.who, .int .i64 y.n, .slice m.q.a m.q.n m.q.c, .slice m.r.a m.r.n m.r.c]) (rfl) (l' := [Hp.own FI 1 cv4 m.c.cn, Hp.rec_ b3 [cv4, .int .i64 (m.c.la.n + 1), .int .i64 y.who, .int .i64 y.n, .slice m.q.a m.q.n m.q.c, .slice m.r.a m.r.n m.r.c], Hp.rec_ b2 [.slice none 0 0, .int .i64 0, .int .i64 0, .int .i64 0, .slice none 0 0, .slice none 0 0], Hp.rec_ b1 [.int .i64 y.kind, .int .i64 y.who, .int .i64 y.frm, .int .i64 y.item, .int .i64 y.n]]) rfl) ?_
    rintro _ _ rfl
    refine Gx.done ?_
    refine Gx.thenN ?_
    refine Gx.seq ?_
    refine Gx.region ?_
    refine Gx.val rfl rfl rfl (Val.cast (val_fieldAddr rfl Try.underlying27 rfl Try.ty24 rfl rfl) (v' := ptr b3 1) rfl) ?_
    refine Gx.val rfl rfl rfl (Val.cast (val_fieldAddr rfl Try.underlying24 rfl Try.ty3 rfl rfl) (v' := ptr b3 1) rfl) ?_
    refine Gx.val rfl rfl rfl (val_load rfl Try.ty3 rfl rfl (cell_rec (k := 1) rfl rfl)) ?_
    refine Gx.val rfl rfl rfl (val_gtr rfl rfl rfl) ?_
    refine Gx.done ?_
    refine Gx.thenN ?_
    refine Gx.dec rfl (fun h18 => ?_) (fun h18 => ?_)
    · refine Gx.seq ?_
      refine Gx.region ?_
      refine Gx.val rfl rfl rfl (Val.cast (val_loadA rfl Try.ty27 rfl rfl rfl (cells_rec (k := 1) rfl)) (v' := .agg #[cv4, .int .i64 (m.c.la.n + 1), .int .i64 y.who, .int .i64 y.n, .slice m.q.a m.q.n m.q.c, .slice m.r.a m.r.n m.r.c]) rfl) ?_
      refine Gx.eff0 rfl rfl (eff_store rfl Try.ty27 rfl rfl (us := [cv4, .int .i64 (m.c.la.n + 1), .int .i64 y.who, .int .i64 y.n, .slice m.q.a m.q.n m.q.c, .slice m.r.a m.r.n m.r.c]) rfl rfl (by simp only [List.all_cons, List.all_nil, Bool.true_and, Bool.and_true, IsS.one hicv4] <;> rfl) (k := 2) rfl (rfl) (vs' := [cv4, .int .i64 (m.c.la.n + 1), .int .i64 y.who, .int .i64 y.n, .slice m.q.a m.q.n m.q.c, .slice m.r.a m.r.n m.r.c]) (rfl) (l' := [Hp.own FI 1 cv4 m.c.cn, Hp.rec_ b3 [cv4, .int .i64 (m.c.la.n + 1), .int .i64 y.who, .int .i64 y.n, .slice m.q.a m.q.n m.q.c, .slice m.r.a m.r.n m.r.c], Hp.rec_ b2 [cv4, .int .i64 (m.c.la.n + 1), .int .i64 y.who, .int .i64 y.n, .slice m.q.a m.q.n m.q.c, .slice m.r.a m.r.n m.r.c], Hp.rec_ b1 [.int .i64 y.kind, .int .i64 y.who, .int .i64 y.frm, .int .i64 y.item, .int .i64 y.n]]) rfl) ?_
      rintro _ _ rfl
      refine Gx.val rfl rfl rfl (val_assign rfl rfl) ?_
      refine Gx.done ?_
      refine Gx.thenN ?_
      refine Gx.ret ?_
      refine Gx.blkR ?_
      refine Gx.thenR ?_
      refine Gx.drop 3 rfl ?_
      refine Gx.drop 1 rfl ?_
      refine Gx.front 1 rfl ?_
      refine Gx.front 1 rfl ?_
      obtain ⟨sa19, sn20, sc21, rfl⟩ := hicv4
      refine Gx.norm (l' := [Hp.own FI 1 (.slice sa19 sn20 sc21) m.c.cn, Hp.rec_ b2 [.slice sa19 sn20 sc21, .int .i64 (m.c.la.n + 1), .int .i64 y.who, .int .i64 y.n, .slice m.q.a m.q.n m.q.c, .slice m.r.a m.r.n m.r.c]]) rfl ?_
      refine Gx.retC2d Try.results23 Try.ty27 rfl rfl (us := [.slice sa19 sn20 sc21, .int .i64 (m.c.la.n + 1), .int .i64 y.who, .int .i64 y.n, .slice m.q.a m.q.n m.q.c, .slice m.r.a m.r.n m.r.c]) rfl (k := 1) rfl rfl ?_
      have hch : chg (ms.map Cm.c) m.c i y = (1, cp0) := by rw [chg_k2 h17, if_pos h18]
      exact ⟨⟨⟨sa19, sn20, sc21⟩, ⟨m.q.a, m.q.n, m.q.c⟩, ⟨m.r.a, m.r.n, m.r.c⟩, ⟨m.c.cn, ⟨m.c.la.n + 1, y.who, y.n⟩, m.c.ad, m.c.go⟩⟩, 1, rfl, by rw [hch], fun h => absurd h (by decide)⟩
    refine Gx.skip ?_
    refine Gx.blkN ?_
    refine Gx.thenN ?_
    refine Gx.seq ?_
    refine Gx.seq ?_
    refine Gx.region ?_
    refine Gx.val rfl rfl rfl (Val.cast (val_loadA rfl Try.ty27 rfl rfl rfl (cells_rec (k := 1) rfl)) (v' := .agg #[cv4, .int .i64 (m.c.la.n + 1), .int .i64 y.who, .int .i64 y.n, .slice m.q.a m.q.n m.q.c, .slice m.r.a m.r.n m.r.c]) rfl) ?_
    refine Gx.val rfl rfl rfl (val_call (vs := [.int .i64 1, .agg #[cv4, .int .i64 (m.c.la.n + 1), .int .i64 y.who, .int .i64 y.n, .slice m.q.a m.q.n m.q.c, .slice m.r.a m.r.n m.r.c]]) rfl Try.fn28 rfl (fun w H => size_any (n := 1) (s := (⟨m.c.la.n + 1, y.who, y.n⟩ : Sp)) hicv4 (hrq.below H.below) (hrr.below H.below))) ?_
    refine Gx.done ?_
    refine Gx.thenN ?_
    refine Gx.bool rfl (fun h22 => ?_) (fun h22 => ?_)
    · refine Gx.seq ?_
      refine Gx.region ?_
      refine Gx.val rfl rfl rfl (Val.cast (val_loadA rfl Try.ty27 rfl rfl rfl (cells_rec (k := 1) rfl)) (v' := .agg #[cv4, .int .i64 (m.c.la.n + 1), .int .i64 y.who, .int .i64 y.n, .slice m.q.a m.q.n m.q.c, .slice m.r.a m.r.n m.r.c]) rfl) ?_
      refine Gx.eff0 rfl rfl (eff_store rfl Try.ty27 rfl rfl (us := [cv4, .int .i64 (m.c.la.n + 1), .int .i64 y.who, .int .i64 y.n, .slice m.q.a m.q.n m.q.c, .slice m.r.a m.r.n m.r.c]) rfl rfl (by simp only [List.all_cons, List.all_nil, Bool.true_and, Bool.and_true, IsS.one hicv4] <;> rfl) (k := 2) rfl (rfl) (vs' := [cv4, .int .i64 (m.c.la.n + 1), .int .i64 y.who, .int .i64 y.n, .slice m.q.a m.q.n m.q.c, .slice m.r.a m.r.n m.r.c]) (rfl) (l' := [Hp.own FI 1 cv4 m.c.cn, Hp.rec_ b3 [cv4, .int .i64 (m.c.la.n + 1), .int .i64 y.who, .int .i64 y.n, .slice m.q.a m.q.n m.q.c, .slice m.r.a m.r.n m.r.c], Hp.rec_ b2 [cv4, .int .i64 (m.c.la.n + 1), .int .i64 y.who, .int .i64 y.n, .slice m.q.a m.q.n m.q.c, .slice m.r.a m.r.n m.r.c], Hp.rec_ b1 [.int .i64 y.kind, .int .i64 y.who, .int .i64 y.frm, .int .i64 y.item, .int .i64 y.n]]) rfl) ?_
      rintro _ _ rfl
      refine Gx.val rfl rfl rfl (val_assign rfl rfl) ?_
      refine Gx.done ?_
      refine Gx.thenN ?_
      refine Gx.ret ?_
      refine Gx.thenR ?_
      refine Gx.drop 3 rfl ?_
      refine Gx.drop 1 rfl ?_
      refine Gx.front 1 rfl ?_
      refine Gx.front 1 rfl ?_
      obtain ⟨sa23, sn24, sc25, rfl⟩ := hicv4
      refine Gx.norm (l' := [Hp.own FI 1 (.slice sa23 sn24 sc25) m.c.cn, Hp.rec_ b2 [.slice sa23 sn24 sc25, .int .i64 (m.c.la.n + 1), .int .i64 y.who, .int .i64 y.n, .slice m.q.a m.q.n m.q.c, .slice m.r.a m.r.n m.r.c]]) rfl ?_
      refine Gx.retC2d Try.results23 Try.ty27 rfl rfl (us := [.slice sa23 sn24 sc25, .int .i64 (m.c.la.n + 1), .int .i64 y.who, .int .i64 y.n, .slice m.q.a m.q.n m.q.c, .slice m.r.a m.r.n m.r.c]) rfl (k := 1) rfl rfl ?_
      have hch : chg (ms.map Cm.c) m.c i y = (1, cp0) := by rw [chg_k2 h17, if_neg h18, szC_pos (c := ⟨m.c.cn, ⟨m.c.la.n + 1, y.who, y.n⟩, m.c.ad, m.c.go⟩) h22]
      exact ⟨⟨⟨sa23, sn24, sc25⟩, ⟨m.q.a, m.q.n, m.q.c⟩, ⟨m.r.a, m.r.n, m.r.c⟩, ⟨m.c.cn, ⟨m.c.la.n + 1, y.who, y.n⟩, m.c.ad, m.c.go⟩⟩, 1, rfl, by rw [hch], fun h => absurd h (by decide)⟩
    refine Gx.skip ?_
    refine Gx.thenN ?_
    refine Gx.seq ?_
    refine Gx.region ?_
    refine Gx.val rfl rfl rfl (Val.cast (val_loadA rfl Try.ty27 rfl rfl rfl (cells_rec (k := 1) rfl)) (v' := .agg #[cv4, .int .i64 (m.c.la.n + 1), .int .i64 y.who, .int .i64 y.n, .slice m.q.a m.q.n m.q.c, .slice m.r.a m.r.n m.r.c]) rfl) ?_
    refine Gx.eff0 rfl rfl (eff_store rfl Try.ty27 rfl rfl (us := [cv4, .int .i64 (m.c.la.n + 1), .int .i64 y.who, .int .i64 y.n, .slice m.q.a m.q.n m.q.c, .slice m.r.a m.r.n m.r.c]) rfl rfl (by simp only [List.all_cons, List.all_nil, Bool.true_and, Bool.and_true, IsS.one hicv4] <;> rfl) (k := 2) rfl (rfl) (vs' := [cv4, .int .i64 (m.c.la.n + 1), .int .i64 y.who, .int .i64 y.n, .slice m.q.a m.q.n m.q.c, .slice m.r.a m.r.n m.r.c]) (rfl) (l' := [Hp.own FI 1 cv4 m.c.cn, Hp.rec_ b3 [cv4, .int .i64 (m.c.la.n + 1), .int .i64 y.who, .int .i64 y.n, .slice m.q.a m.q.n m.q.c, .slice m.r.a m.r.n m.r.c], Hp.rec_ b2 [cv4, .int .i64 (m.c.la.n + 1), .int .i64 y.who, .int .i64 y.n, .slice m.q.a m.q.n m.q.c, .slice m.r.a m.r.n m.r.c], Hp.rec_ b1 [.int .i64 y.kind, .int .i64 y.who, .int .i64 y.frm, .int .i64 y.item, .int .i64 y.n]]) rfl) ?_
    rintro _ _ rfl
    refine Gx.val rfl rfl rfl (val_assign rfl rfl) ?_
    refine Gx.done ?_
    refine Gx.thenN ?_
    refine Gx.ret ?_
    refine Gx.drop 3 rfl ?_
    refine Gx.drop 1 rfl ?_
    refine Gx.front 1 rfl ?_
    refine Gx.front 1 rfl ?_
    obtain ⟨sa26, sn27, sc28, rfl⟩ := hicv4
    refine Gx.norm (l' := [Hp.own FI 1 (.slice sa26 sn27 sc28) m.c.cn, Hp.rec_ b2 [.slice sa26 sn27 sc28, .int .i64 (m.c.la.n + 1), .int .i64 y.who, .int .i64 y.n, .slice m.q.a m.q.n m.q.c, .slice m.r.a m.r.n m.r.c]]) rfl ?_
    refine Gx.retC2d Try.results23 Try.ty27 rfl rfl (us := [.slice sa26 sn27 sc28, .int .i64 (m.c.la.n + 1), .int .i64 y.who, .int .i64 y.n, .slice m.q.a m.q.n m.q.c, .slice m.r.a m.r.n m.r.c]) rfl (k := 1) rfl rfl ?_
    have hch : chg (ms.map Cm.c) m.c i y = (0, ⟨m.c.cn, ⟨m.c.la.n + 1, y.who, y.n⟩, m.c.ad, m.c.go⟩) := by rw [chg_k2 h17, if_neg h18, szC_neg (c := ⟨m.c.cn, ⟨m.c.la.n + 1, y.who, y.n⟩, m.c.ad, m.c.go⟩) h22]
    exact ⟨⟨⟨sa26, sn27, sc28⟩, ⟨m.q.a, m.q.n, m.q.c⟩, ⟨m.r.a, m.r.n, m.r.c⟩, ⟨m.c.cn, ⟨m.c.la.n + 1, y.who, y.n⟩, m.c.ad, m.c.go⟩⟩, 0, rfl, by rw [hch], fun _ => ⟨by rw [hch], fun W w R H => ent_p H⟩⟩
  refine Gx.seq ?_
  refine Gx.region ?_
  refine Gx.val rfl rfl rfl (val_eql rfl rfl rfl) ?_
  refine Gx.val rfl rfl rfl (val_assign rfl rfl) ?_
  refine Gx.done ?_
  refine Gx.thenN ?_
  refine Gx.dec rfl (fun h29 => ?_) (fun h29 => ?_)
  · refine Gx.seq ?_
    refine Gx.region ?_
    refine Gx.val rfl rfl rfl (Val.cast (val_fieldAddr rfl Try.underlying42 rfl Try.ty3 rfl rfl) (v' := ptr b1 3) rfl) ?_
    refine Gx.val rfl rfl rfl (val_load rfl Try.ty3 rfl rfl (cell_rec (k := 3) rfl rfl)) ?_
    refine Gx.val rfl rfl rfl (Val.cast (val_fieldAddr rfl Try.underlying42 rfl Try.ty3 rfl rfl) (v' := ptr b1 1) rfl) ?_
    refine Gx.val rfl rfl rfl (val_load rfl Try.ty3 rfl rfl (cell_rec (k := 3) rfl rfl)) ?_
    refine Gx.val rfl rfl rfl (val_build rfl (qs := [(0, .int .i64 y.item), (1, .int .i64 y.who), (2, .int .i64 1)]) rfl rfl (fun w => by go_simp) (v := .agg #[.int .i64 y.item, .int .i64 y.who, .int .i64 1])) ?_
    refine Gx.eff rfl rfl rfl (eff_alloc rfl Try.ty59 (vs := [.int .i64 0, .int .i64 0, .int .i64 0]) rfl) ?_
    rintro _ _ ⟨b30, rfl, rfl⟩
    refine Gx.eff0 rfl rfl (eff_store rfl Try.ty59 rfl rfl (us := [.int .i64 y.item, .int .i64 y.who, .int .i64 1]) rfl rfl rfl (k := 0) rfl (rfl) (vs' := [.int .i64 y.item, .int .i64 y.who, .int .i64 1]) (rfl) (l' := [Hp.rec_ b30 [.int .i64 y.item, .int .i64 y.who, .int .i64 1], Hp.own FI 1 cv4 m.c.cn, Hp.rec_ b3 [cv4, .int .i64 m.c.la.n, .int .i64 m.c.la.who, .int .i64 m.c.la.val, .slice m.q.a m.q.n m.q.c, .slice m.r.a m.r.n m.r.c], Hp.rec_ b2 [.slice none 0 0, .int .i64 0, .int .i64 0, .int .i64 0, .slice none 0 0, .slice none 0 0], Hp.rec_ b1 [.int .i64 y.kind, .int .i64 y.who, .int .i64 y.frm, .int .i64 y.item, .int .i64 y.n]]) rfl) ?_
    rintro _ _ rfl
    refine Gx.done ?_
    refine Gx.thenN ?_
    refine Gx.seq ?_
    refine Gx.seq ?_
    refine Gx.region ?_
    refine Gx.val rfl rfl rfl (Val.cast (val_fieldAddr rfl Try.underlying27 rfl Try.ty25 rfl rfl) (v' := ptr b3 4) rfl) ?_
    refine Gx.val rfl rfl rfl (val_load rfl Try.ty25 rfl rfl (cell_rec (k := 2) rfl rfl)) ?_
    refine Gx.val rfl rfl rfl (val_len rfl Try.underlying25 rfl (len_base hrq)) ?_
    refine Gx.val rfl rfl rfl (val_move rfl rfl) ?_
    refine Gx.done ?_
    refine Gx.thenN ?_
    refine Gx.block ?_
    refine Gx.loop (ι := Nat) (fun ξ => (ξ ≤ m.c.ad.length)) (fun ξ => [(0, v), (3, ptr b1 0), (4, ptr b2 0), (5, .int .i64 0), (6, ptr b3 0), (7, ptr b30 0), (68, .slice m.q.a m.q.n m.q.c), (69, .int .i64 ((m.c.ad.length : Nat) : Int)), (70, .int .i64 ((ξ : Nat) : Int))]) (fun ξ => [Hp.rec_ b30 [.int .i64 y.item, .int .i64 y.who, .int .i64 (nxt (m.c.ad.take ξ) y.who)], Hp.own FI 1 cv4 m.c.cn, Hp.rec_ b3 [cv4, .int .i64 m.c.la.n, .int .i64 m.c.la.who, .int .i64 m.c.la.val, .slice m.q.a m.q.n m.q.c, .slice m.r.a m.r.n m.r.c], Hp.rec_ b2 [.slice none 0 0, .int .i64 0, .int .i64 0, .int .i64 0, .slice none 0 0, .slice none 0 0], Hp.rec_ b1 [.int .i64 y.kind, .int .i64 y.who, .int .i64 y.frm, .int .i64 y.item, .int .i64 y.n]]) (fun ξ => m.c.ad.length - ξ) 0 (Nat.zero_le _) ((.cons rfl (.cons rfl (.cons rfl (.cons rfl (.cons rfl (.cons rfl (.cons rfl (.cons rfl (.cons rfl .nil)))))))))) rfl ?_
    rintro k hk
    refine Gx.know (m' := [(0, v), (3, ptr b1 0), (4, ptr b2 0), (5, .int .i64 0), (6, ptr b3 0), (7, ptr b30 0), (68, .slice m.q.a m.q.n m.q.c), (69, .int .i64 ((m.c.ad.length : Nat) : Int)), (70, .int .i64 ((k : Nat) : Int))]) (.cons rfl (.cons rfl (.cons rfl (.cons rfl (.cons rfl (.cons rfl (.cons rfl (.cons rfl (.cons rfl .nil))))))))) (Gx.norm (l' := [Hp.rec_ b30 [.int .i64 y.item, .int .i64 y.who, .int .i64 (nxt (m.c.ad.take k) y.who)], Hp.own FI 1 cv4 m.c.cn, Hp.rec_ b3 [cv4, .int .i64 m.c.la.n, .int .i64 m.c.la.who, .int .i64 m.c.la.val, .slice m.q.a m.q.n m.q.c, .slice m.r.a m.r.n m.r.c], Hp.rec_ b2 [.slice none 0 0, .int .i64 0, .int .i64 0, .int .i64 0, .slice none 0 0, .slice none 0 0], Hp.rec_ b1 [.int .i64 y.kind, .int .i64 y.who, .int .i64 y.frm, .int .i64 y.item, .int .i64 y.n]]) rfl ?_)
    have hnb := nxt_bd (l := m.c.ad.take k) (who := y.who) (N := K) (fun d hd => (hbm.ar d (List.mem_of_mem_take hd)).2.2.2.2.2) h0
    refine Gx.seq ?_
    refine Gx.region ?_
    refine Gx.val rfl rfl rfl (val_lss rfl rfl rfl) ?_
    refine Gx.done ?_
    refine Gx.thenN ?_
    refine Gx.seq ?_
    refine Gx.dec rfl (fun h31 => ?_) (fun h31 => ?_)
    · refine Gx.skip ?_
      refine Gx.thenN ?_
      refine Gx.seq ?_
      refine Gx.block ?_
      refine Gx.seq ?_
      obtain ⟨d0, hd0⟩ := get_of_lt (xs := m.c.ad) (k := k) (by omega)
      have hdb := hbm.ar d0 (List.mem_of_getElem? hd0)
      unfold DtB at hdb
      refine Gx.region ?_
      refine Gx.val rfl rfl rfl (val_ixa rfl Try.underlying25 Try.ty59 rfl rfl (j := k) (rfl) (reach_base hrq hd0)) ?_
      refine Gx.val rfl rfl rfl (Val.cast (val_loadA rfl Try.ty59 rfl rfl rfl (cells_base hrq hd0)) (v' := .agg #[.int .i64 d0.item, .int .i64 d0.who, .int .i64 d0.n]) rfl) ?_
      refine Gx.eff rfl rfl rfl (eff_alloc rfl Try.ty59 (vs := [.int .i64 0, .int .i64 0, .int .i64 0]) rfl) ?_
      rintro _ _ ⟨b32, rfl, rfl⟩
      refine Gx.eff0 rfl rfl (eff_store rfl Try.ty59 rfl rfl (us := [.int .i64 d0.item, .int .i64 d0.who, .int .i64 d0.n]) rfl rfl rfl (k := 0) rfl (rfl) (vs' := [.int .i64 d0.item, .int .i64 d0.who, .int .i64 d0.n]) (rfl) (l' := [Hp.rec_ b32 [.int .i64 d0.item, .int .i64 d0.who, .int .i64 d0.n], Hp.rec_ b30 [.int .i64 y.item, .int .i64 y.who, .int .i64 (nxt (m.c.ad.take k) y.who)], Hp.own FI 1 cv4 m.c.cn, Hp.rec_ b3 [cv4, .int .i64 m.c.la.n, .int .i64 m.c.la.who, .int .i64 m.c.la.val, .slice m.q.a m.q.n m.q.c, .slice m.r.a m.r.n m.r.c], Hp.rec_ b2 [.slice none 0 0, .int .i64 0, .int .i64 0, .int .i64 0, .slice none 0 0, .slice none 0 0], Hp.rec_ b1 [.int .i64 y.kind, .int .i64 y.who, .int .i64 y.frm, .int .i64 y.item, .int .i64 y.n]]) rfl) ?_
      rintro _ _ rfl
      refine Gx.done ?_
      refine Gx.thenN ?_
      refine Gx.seq ?_
      refine Gx.region ?_
      refine Gx.val rfl rfl rfl (Val.cast (val_fieldAddr rfl Try.underlying59 rfl Try.ty3 rfl rfl) (v' := ptr b32 1) rfl) ?_
      refine Gx.val rfl rfl rfl (val_load rfl Try.ty3 rfl rfl (cell_rec (k := 0) rfl rfl)) ?_
      refine Gx.val rfl rfl rfl (Val.cast (val_fieldAddr rfl Try.underlying42 rfl Try.ty3 rfl rfl) (v' := ptr b1 1) rfl) ?_
      refine Gx.val rfl rfl rfl (val_load rfl Try.ty3 rfl rfl (cell_rec (k := 5) rfl rfl)) ?_
      refine Gx.val rfl rfl rfl (val_eql rfl rfl rfl) ?_
      refine Gx.done ?_
      refine Gx.thenN ?_
      refine Gx.dec rfl (fun h33 => ?_) (fun h33 => ?_)
      · refine Gx.region ?_
        refine Gx.val rfl rfl rfl (Val.cast (val_fieldAddr rfl Try.underlying59 rfl Try.ty3 rfl rfl) (v' := ptr b30 2) rfl) ?_
        refine Gx.val rfl rfl rfl (val_load rfl Try.ty3 rfl rfl (cell_rec (k := 1) rfl rfl)) ?_
        refine Gx.val rfl rfl rfl (Val.cast (val_fieldAddr rfl Try.underlying59 rfl Try.ty3 rfl rfl) (v' := ptr b32 2) rfl) ?_
        refine Gx.val rfl rfl rfl (val_load rfl Try.ty3 rfl rfl (cell_rec (k := 0) rfl rfl)) ?_
        refine Gx.val rfl rfl rfl (val_add rfl rfl rfl (r := (d0.n + 1)) (w64 rfl (by omega))) ?_
        refine Gx.val rfl rfl rfl (val_max rfl rfl rfl (r := (mx2 (nxt (m.c.ad.take k) y.who) (d0.n + 1))) (rfl)) ?_
        refine Gx.val rfl rfl rfl (Val.cast (val_fieldAddr rfl Try.underlying59 rfl Try.ty3 rfl rfl) (v' := ptr b30 2) rfl) ?_
        refine Gx.eff0 rfl rfl (eff_store rfl Try.ty3 rfl rfl (us := [.int .i64 (mx2 (nxt (m.c.ad.take k) y.who) (d0.n + 1))]) rfl rfl rfl (k := 1) rfl (rfl) (vs' := [.int .i64 y.item, .int .i64 y.who, .int .i64 (mx2 (nxt (m.c.ad.take k) y.who) (d0.n + 1))]) (rfl) (l' := [Hp.rec_ b32 [.int .i64 d0.item, .int .i64 d0.who, .int .i64 d0.n], Hp.rec_ b30 [.int .i64 y.item, .int .i64 y.who, .int .i64 (mx2 (nxt (m.c.ad.take k) y.who) (d0.n + 1))], Hp.own FI 1 cv4 m.c.cn, Hp.rec_ b3 [cv4, .int .i64 m.c.la.n, .int .i64 m.c.la.who, .int .i64 m.c.la.val, .slice m.q.a m.q.n m.q.c, .slice m.r.a m.r.n m.r.c], Hp.rec_ b2 [.slice none 0 0, .int .i64 0, .int .i64 0, .int .i64 0, .slice none 0 0, .slice none 0 0], Hp.rec_ b1 [.int .i64 y.kind, .int .i64 y.who, .int .i64 y.frm, .int .i64 y.item, .int .i64 y.n]]) rfl) ?_
        rintro _ _ rfl
        refine Gx.done ?_
        refine Gx.blkN ?_
        refine Gx.thenN ?_
        refine Gx.region ?_
        refine Gx.val rfl rfl rfl (val_add rfl rfl rfl (r := ((k + 1 : Nat) : Int)) (w64 (by omega) (by omega))) ?_
        refine Gx.val rfl rfl rfl (val_move rfl rfl) ?_
        refine Gx.done ?_
        refine Gx.thenN ?_
        refine Gx.drop 0 rfl ?_
        refine Gx.norm (l' := [Hp.rec_ b30 [.int .i64 y.item, .int .i64 y.who, .int .i64 (nxt (m.c.ad.take (k + 1)) y.who)], Hp.own FI 1 cv4 m.c.cn, Hp.rec_ b3 [cv4, .int .i64 m.c.la.n, .int .i64 m.c.la.who, .int .i64 m.c.la.val, .slice m.q.a m.q.n m.q.c, .slice m.r.a m.r.n m.r.c], Hp.rec_ b2 [.slice none 0 0, .int .i64 0, .int .i64 0, .int .i64 0, .slice none 0 0, .slice none 0 0], Hp.rec_ b1 [.int .i64 y.kind, .int .i64 y.who, .int .i64 y.frm, .int .i64 y.item, .int .i64 y.n]]) (by rw [take_snoc9 hd0, nxt_snoc, if_pos h33] <;> rfl) ?_
        exact Gx.round (k + 1) (by first | omega | (dsimp only; omega)) (by first | omega | (dsimp only; omega)) ((.cons rfl (.cons rfl (.cons rfl (.cons rfl (.cons rfl (.cons rfl (.cons rfl (.cons rfl (.cons rfl .nil)))))))))) rfl
      refine Gx.skip ?_
      refine Gx.blkN ?_
      refine Gx.thenN ?_
      refine Gx.region ?_
      refine Gx.val rfl rfl rfl (val_add rfl rfl rfl (r := ((k + 1 : Nat) : Int)) (w64 (by omega) (by omega))) ?_
      refine Gx.val rfl rfl rfl (val_move rfl rfl) ?_
      refine Gx.done ?_
      refine Gx.thenN ?_
      refine Gx.drop 0 rfl ?_
      refine Gx.norm (l' := [Hp.rec_ b30 [.int .i64 y.item, .int .i64 y.who, .int .i64 (nxt (m.c.ad.take (k + 1)) y.who)], Hp.own FI 1 cv4 m.c.cn, Hp.rec_ b3 [cv4, .int .i64 m.c.la.n, .int .i64 m.c.la.who, .int .i64 m.c.la.val, .slice m.q.a m.q.n m.q.c, .slice m.r.a m.r.n m.r.c], Hp.rec_ b2 [.slice none 0 0, .int .i64 0, .int .i64 0, .int .i64 0, .slice none 0 0, .slice none 0 0], Hp.rec_ b1 [.int .i64 y.kind, .int .i64 y.who, .int .i64 y.frm, .int .i64 y.item, .int .i64 y.n]]) (by rw [take_snoc9 hd0, nxt_snoc, if_neg h33] <;> rfl) ?_
      exact Gx.round (k + 1) (by first | omega | (dsimp only; omega)) (by first | omega | (dsimp only; omega)) ((.cons rfl (.cons rfl (.cons rfl (.cons rfl (.cons rfl (.cons rfl (.cons rfl (.cons rfl (.cons rfl .nil)))))))))) rfl
    refine Gx.exit ?_
    refine Gx.thenE ?_
    refine Gx.thenE ?_
    refine Gx.blkE ?_
    refine Gx.thenN ?_
    have hkt : m.c.ad.take k = m.c.ad := List.take_of_length_le (by omega)
    rw [hkt] at hnb
    refine Gx.norm (l' := [Hp.rec_ b30 [.int .i64 y.item, .int .i64 y.who, .int .i64 (nxt m.c.ad y.who)], Hp.own FI 1 cv4 m.c.cn, Hp.rec_ b3 [cv4, .int .i64 m.c.la.n, .int .i64 m.c.la.who, .int .i64 m.c.la.val, .slice m.q.a m.q.n m.q.c, .slice m.r.a m.r.n m.r.c], Hp.rec_ b2 [.slice none 0 0, .int .i64 0, .int .i64 0, .int .i64 0, .slice none 0 0, .slice none 0 0], Hp.rec_ b1 [.int .i64 y.kind, .int .i64 y.who, .int .i64 y.frm, .int .i64 y.item, .int .i64 y.n]]) (by rw [hkt] <;> rfl) ?_
    refine Gx.region ?_
    refine Gx.val rfl rfl rfl (Val.cast (val_fieldAddr rfl Try.underlying27 rfl Try.ty25 rfl rfl) (v' := ptr b3 4) rfl) ?_
    refine Gx.val rfl rfl rfl (val_load rfl Try.ty25 rfl rfl (cell_rec (k := 2) rfl rfl)) ?_
    refine Gx.val rfl rfl rfl (Val.cast (val_loadA rfl Try.ty59 rfl rfl rfl (cells_rec (k := 0) rfl)) (v' := .agg #[.int .i64 y.item, .int .i64 y.who, .int .i64 (nxt m.c.ad y.who)]) rfl) ?_
    refine Gx.eff rfl rfl rfl (eff_buildSlice rfl (qs := [(0, .agg #[.int .i64 y.item, .int .i64 y.who, .int .i64 (nxt m.c.ad y.who)])]) rfl rfl (cs := #[.int .i64 y.item, .int .i64 y.who, .int .i64 (nxt m.c.ad y.who)]) (vs := [.int .i64 y.item, .int .i64 y.who, .int .i64 (nxt m.c.ad y.who)]) (E := 59) rfl (fun w => by first | (go_simp; done) | (go_simp; rfl))) ?_
    rintro _ _ ⟨b34, rfl, rfl⟩
    refine Gx.eff rfl rfl rfl (eff_callV1 (S := IsS) (p := fun v => Hp.own FD 3 v (uni m.c.ad [(⟨y.item, y.who, (nxt m.c.ad y.who)⟩ : Dt)])) (vs := [.slice m.q.a m.q.n m.q.c, .slice (some ⟨b34, 0, none⟩) 1 1]) rfl Try.fn33 rfl (fun w H => union_ok (hrq.below H.below) (((H.at_ (k := 0) rfl).mono (own_of_rec (f := FD) (xs := [(⟨y.item, y.who, (nxt m.c.ad y.who)⟩ : Dt)]) FD_len rfl)).sls (by simp)) (fun d hd => (hbm.ar d hd).rng (by omega) (by omega)) (fun d hd => by rw [List.mem_singleton] at hd; subst hd; unfold Rng in64; dsimp only; omega) (by first | (simp only [List.length_singleton]; omega) | (have := List.length_filter_le (fun d => !decide (d.item ≠ y.item)) m.c.ad; omega)))) ?_
    rintro uv35 _ ⟨hiuv35, rfl⟩
    refine Gx.norm (l' := [Hp.own FD 3 uv35 (uni m.c.ad [(⟨y.item, y.who, (nxt m.c.ad y.who)⟩ : Dt)]), Hp.rec_ b34 [.int .i64 y.item, .int .i64 y.who, .int .i64 (nxt m.c.ad y.who)], Hp.rec_ b30 [.int .i64 y.item, .int .i64 y.who, .int .i64 (nxt m.c.ad y.who)], Hp.own FI 1 cv4 m.c.cn, Hp.rec_ b3 [cv4, .int .i64 m.c.la.n, .int .i64 m.c.la.who, .int .i64 m.c.la.val, .slice m.q.a m.q.n m.q.c, .slice m.r.a m.r.n m.r.c], Hp.rec_ b2 [.slice none 0 0, .int .i64 0, .int .i64 0, .int .i64 0, .slice none 0 0, .slice none 0 0], Hp.rec_ b1 [.int .i64 y.kind, .int .i64 y.who, .int .i64 y.frm, .int .i64 y.item, .int .i64 y.n]]) rfl ?_
    refine Gx.val rfl rfl rfl (Val.cast (val_fieldAddr rfl Try.underlying27 rfl Try.ty25 rfl rfl) (v' := ptr b3 4) rfl) ?_
    refine Gx.eff0 rfl rfl (eff_store rfl Try.ty25 rfl rfl (us := [uv35]) hiuv35.cellsL rfl hiuv35.all (k := 4) rfl (rfl) (vs' := [cv4, .int .i64 m.c.la.n, .int .i64 m.c.la.who, .int .i64 m.c.la.val, uv35, .slice m.r.a m.r.n m.r.c]) (rfl) (l' := [Hp.own FD 3 uv35 (uni m.c.ad [(⟨y.item, y.who, (nxt m.c.ad y.who)⟩ : Dt)]), Hp.rec_ b34 [.int .i64 y.item, .int .i64 y.who, .int .i64 (nxt m.c.ad y.who)], Hp.rec_ b30 [.int .i64 y.item, .int .i64 y.who, .int .i64 (nxt m.c.ad y.who)], Hp.own FI 1 cv4 m.c.cn, Hp.rec_ b3 [cv4, .int .i64 m.c.la.n, .int .i64 m.c.la.who, .int .i64 m.c.la.val, uv35, .slice m.r.a m.r.n m.r.c], Hp.rec_ b2 [.slice none 0 0, .int .i64 0, .int .i64 0, .int .i64 0, .slice none 0 0, .slice none 0 0], Hp.rec_ b1 [.int .i64 y.kind, .int .i64 y.who, .int .i64 y.frm, .int .i64 y.item, .int .i64 y.n]]) rfl) ?_
    rintro _ _ rfl
    refine Gx.done ?_
    refine Gx.blkN ?_
    refine Gx.thenN ?_
    refine Gx.seq ?_
    refine Gx.seq ?_
    refine Gx.region ?_
    refine Gx.val rfl rfl rfl (Val.cast (val_loadA rfl Try.ty27 rfl rfl rfl (cells_rec (k := 4) rfl)) (v' := .agg #[cv4, .int .i64 m.c.la.n, .int .i64 m.c.la.who, .int .i64 m.c.la.val, uv35, .slice m.r.a m.r.n m.r.c]) rfl) ?_
    refine Gx.val rfl rfl rfl (val_call (vs := [.int .i64 1, .agg #[cv4, .int .i64 m.c.la.n, .int .i64 m.c.la.who, .int .i64 m.c.la.val, uv35, .slice m.r.a m.r.n m.r.c]]) rfl Try.fn28 rfl (fun w H => size_any (n := 1) (s := m.c.la) hicv4 ((H.at_ (k := 0) rfl).sls (by first | omega | (have := List.length_filter_le (fun d => !decide (d.item ≠ y.item)) m.c.ad; omega) | (have := uni_len m.c.ad [(⟨y.item, y.who, nxt m.c.ad y.who⟩ : Dt)]; simp only [List.length_singleton] at this; omega) | (have := uni_len m.c.go (m.c.ad.filter fun d => !decide (d.item ≠ y.item)); have := List.length_filter_le (fun d => !decide (d.item ≠ y.item)) m.c.ad; omega))) (hrr.below H.below))) ?_
    refine Gx.done ?_
    refine Gx.thenN ?_
    refine Gx.bool rfl (fun h36 => ?_) (fun h36 => ?_)
    · refine Gx.seq ?_
      refine Gx.region ?_
      refine Gx.val rfl rfl rfl (Val.cast (val_loadA rfl Try.ty27 rfl rfl rfl (cells_rec (k := 4) rfl)) (v' := .agg #[cv4, .int .i64 m.c.la.n, .int .i64 m.c.la.who, .int .i64 m.c.la.val, uv35, .slice m.r.a m.r.n m.r.c]) rfl) ?_
      refine Gx.eff0 rfl rfl (eff_store rfl Try.ty27 rfl rfl (us := [cv4, .int .i64 m.c.la.n, .int .i64 m.c.la.who, .int .i64 m.c.la.val, uv35, .slice m.r.a m.r.n m.r.c]) rfl rfl (by simp only [List.all_cons, List.all_nil, Bool.true_and, Bool.and_true, IsS.one hicv4, IsS.one hiuv35] <;> rfl) (k := 5) rfl (rfl) (vs' := [cv4, .int .i64 m.c.la.n, .int .i64 m.c.la.who, .int .i64 m.c.la.val, uv35, .slice m.r.a m.r.n m.r.c]) (rfl) (l' := [Hp.own FD 3 uv35 (uni m.c.ad [(⟨y.item, y.who, (nxt m.c.ad y.who)⟩ : Dt)]), Hp.rec_ b34 [.int .i64 y.item, .int .i64 y.who, .int .i64 (nxt m.c.ad y.who)], Hp.rec_ b30 [.int .i64 y.item, .int .i64 y.who, .int .i64 (nxt m.c.ad y.who)], Hp.own FI 1 cv4 m.c.cn, Hp.rec_ b3 [cv4, .int .i64 m.c.la.n, .int .i64 m.c.la.who, .int .i64 m.c.la.val, uv35, .slice m.r.a m.r.n m.r.c], Hp.rec_ b2 [cv4, .int .i64 m.c.la.n, .int .i64 m.c.la.who, .int .i64 m.c.la.val, uv35, .slice m.r.a m.r.n m.r.c], Hp.rec_ b1 [.int .i64 y.kind, .int .i64 y.who, .int .i64 y.frm, .int .i64 y.item, .int .i64 y.n]]) rfl) ?_
      rintro _ _ rfl
      refine Gx.val rfl rfl rfl (val_assign rfl rfl) ?_
      refine Gx.done ?_
      refine Gx.thenN ?_
      refine Gx.ret ?_
      refine Gx.thenR ?_
      refine Gx.drop 6 rfl ?_
      refine Gx.drop 4 rfl ?_
      refine Gx.drop 2 rfl ?_
      refine Gx.drop 1 rfl ?_
      refine Gx.front 2 rfl ?_
      refine Gx.front 1 rfl ?_
      refine Gx.front 2 rfl ?_
      obtain ⟨sa37, sn38, sc39, rfl⟩ := hicv4
      obtain ⟨sa40, sn41, sc42, rfl⟩ := hiuv35
      refine Gx.norm (l' := [Hp.own FI 1 (.slice sa37 sn38 sc39) m.c.cn, Hp.own FD 3 (.slice sa40 sn41 sc42) (uni m.c.ad [(⟨y.item, y.who, (nxt m.c.ad y.who)⟩ : Dt)]), Hp.rec_ b2 [.slice sa37 sn38 sc39, .int .i64 m.c.la.n, .int .i64 m.c.la.who, .int .i64 m.c.la.val, .slice sa40 sn41 sc42, .slice m.r.a m.r.n m.r.c]]) rfl ?_
      refine Gx.retC2d Try.results23 Try.ty27 rfl rfl (us := [.slice sa37 sn38 sc39, .int .i64 m.c.la.n, .int .i64 m.c.la.who, .int .i64 m.c.la.val, .slice sa40 sn41 sc42, .slice m.r.a m.r.n m.r.c]) rfl (k := 2) rfl rfl ?_
      have hch : chg (ms.map Cm.c) m.c i y = (1, cp0) := by rw [chg_k3 h29, szC_pos (c := ⟨m.c.cn, m.c.la, (uni m.c.ad [(⟨y.item, y.who, (nxt m.c.ad y.who)⟩ : Dt)]), m.c.go⟩) h36]
      exact ⟨⟨⟨sa37, sn38, sc39⟩, ⟨sa40, sn41, sc42⟩, ⟨m.r.a, m.r.n, m.r.c⟩, ⟨m.c.cn, m.c.la, (uni m.c.ad [(⟨y.item, y.who, (nxt m.c.ad y.who)⟩ : Dt)]), m.c.go⟩⟩, 1, rfl, by rw [hch], fun h => absurd h (by decide)⟩
    refine Gx.skip ?_
    refine Gx.thenN ?_
    refine Gx.seq ?_
    refine Gx.region ?_
    refine Gx.val rfl rfl rfl (Val.cast (val_loadA rfl Try.ty27 rfl rfl rfl (cells_rec (k := 4) rfl)) (v' := .agg #[cv4, .int .i64 m.c.la.n, .int .i64 m.c.la.who, .int .i64 m.c.la.val, uv35, .slice m.r.a m.r.n m.r.c]) rfl) ?_
    refine Gx.eff0 rfl rfl (eff_store rfl Try.ty27 rfl rfl (us := [cv4, .int .i64 m.c.la.n, .int .i64 m.c.la.who, .int .i64 m.c.la.val, uv35, .slice m.r.a m.r.n m.r.c]) rfl rfl (by simp only [List.all_cons, List.all_nil, Bool.true_and, Bool.and_true, IsS.one hicv4, IsS.one hiuv35] <;> rfl) (k := 5) rfl (rfl) (vs' := [cv4, .int .i64 m.c.la.n, .int .i64 m.c.la.who, .int .i64 m.c.la.val, uv35, .slice m.r.a m.r.n m.r.c]) (rfl) (l' := [Hp.own FD 3 uv35 (uni m.c.ad [(⟨y.item, y.who, (nxt m.c.ad y.who)⟩ : Dt)]), Hp.rec_ b34 [.int .i64 y.item, .int .i64 y.who, .int .i64 (nxt m.c.ad y.who)], Hp.rec_ b30 [.int .i64 y.item, .int .i64 y.who, .int .i64 (nxt m.c.ad y.who)], Hp.own FI 1 cv4 m.c.cn, Hp.rec_ b3 [cv4, .int .i64 m.c.la.n, .int .i64 m.c.la.who, .int .i64 m.c.la.val, uv35, .slice m.r.a m.r.n m.r.c], Hp.rec_ b2 [cv4, .int .i64 m.c.la.n, .int .i64 m.c.la.who, .int .i64 m.c.la.val, uv35, .slice m.r.a m.r.n m.r.c], Hp.rec_ b1 [.int .i64 y.kind, .int .i64 y.who, .int .i64 y.frm, .int .i64 y.item, .int .i64 y.n]]) rfl) ?_
    rintro _ _ rfl
    refine Gx.val rfl rfl rfl (val_assign rfl rfl) ?_
    refine Gx.done ?_
    refine Gx.thenN ?_
    refine Gx.ret ?_
    refine Gx.drop 6 rfl ?_
    refine Gx.drop 4 rfl ?_
    refine Gx.drop 2 rfl ?_
    refine Gx.drop 1 rfl ?_
    refine Gx.front 2 rfl ?_
    refine Gx.front 1 rfl ?_
    refine Gx.front 2 rfl ?_
    obtain ⟨sa43, sn44, sc45, rfl⟩ := hicv4
    obtain ⟨sa46, sn47, sc48, rfl⟩ := hiuv35
    refine Gx.norm (l' := [Hp.own FI 1 (.slice sa43 sn44 sc45) m.c.cn, Hp.own FD 3 (.slice sa46 sn47 sc48) (uni m.c.ad [(⟨y.item, y.who, (nxt m.c.ad y.who)⟩ : Dt)]), Hp.rec_ b2 [.slice sa43 sn44 sc45, .int .i64 m.c.la.n, .int .i64 m.c.la.who, .int .i64 m.c.la.val, .slice sa46 sn47 sc48, .slice m.r.a m.r.n m.r.c]]) rfl ?_
    refine Gx.retC2d Try.results23 Try.ty27 rfl rfl (us := [.slice sa43 sn44 sc45, .int .i64 m.c.la.n, .int .i64 m.c.la.who, .int .i64 m.c.la.val, .slice sa46 sn47 sc48, .slice m.r.a m.r.n m.r.c]) rfl (k := 2) rfl rfl ?_
    have hch : chg (ms.map Cm.c) m.c i y = (0, ⟨m.c.cn, m.c.la, (uni m.c.ad [(⟨y.item, y.who, (nxt m.c.ad y.who)⟩ : Dt)]), m.c.go⟩) := by rw [chg_k3 h29, szC_neg (c := ⟨m.c.cn, m.c.la, (uni m.c.ad [(⟨y.item, y.who, (nxt m.c.ad y.who)⟩ : Dt)]), m.c.go⟩) h36]
    exact ⟨⟨⟨sa43, sn44, sc45⟩, ⟨sa46, sn47, sc48⟩, ⟨m.r.a, m.r.n, m.r.c⟩, ⟨m.c.cn, m.c.la, (uni m.c.ad [(⟨y.item, y.who, (nxt m.c.ad y.who)⟩ : Dt)]), m.c.go⟩⟩, 0, rfl, by rw [hch], fun _ => ⟨by rw [hch], fun W w R H => ent_pq H⟩⟩
  refine Gx.seq ?_
  refine Gx.region ?_
  refine Gx.val rfl rfl rfl (val_eql rfl rfl rfl) ?_
  refine Gx.val rfl rfl rfl (val_assign rfl rfl) ?_
  refine Gx.done ?_
  refine Gx.thenN ?_
  refine Gx.dec rfl (fun h49 => ?_) (fun h49 => ?_)
  · refine Gx.seq ?_
    refine Gx.region ?_
    refine Gx.val rfl rfl rfl (Val.cast (val_makeFunc (us := []) (vs := [ptr b1 0]) rfl rfl rfl) (v' := .func (.func 37) #[] #[ptr b1 0]) rfl) ?_
    refine Gx.val rfl rfl rfl (val_assign rfl rfl) ?_
    refine Gx.done ?_
    refine Gx.thenN ?_
    refine Gx.regionO (fun j => j == 4 || j == 6) 7 [0, 1, 2, 3, 5, 4, 6] (fun us => match us with | [] => [Hp.own FI 1 cv4 m.c.cn, Hp.rec_ b3 [cv4, .int .i64 m.c.la.n, .int .i64 m.c.la.who, .int .i64 m.c.la.val, .slice m.q.a m.q.n m.q.c, .slice m.r.a m.r.n m.r.c], Hp.rec_ b2 [.slice none 0 0, .int .i64 0, .int .i64 0, .int .i64 0, .slice none 0 0, .slice none 0 0], Hp.rec_ b1 [.int .i64 y.kind, .int .i64 y.who, .int .i64 y.frm, .int .i64 y.item, .int .i64 y.n]] | [u1] => [Hp.own FD 3 u1 m.c.ad, Hp.own FI 1 cv4 m.c.cn, Hp.rec_ b3 [cv4, .int .i64 m.c.la.n, .int .i64 m.c.la.who, .int .i64 m.c.la.val, .slice m.q.a m.q.n m.q.c, .slice m.r.a m.r.n m.r.c], Hp.rec_ b2 [.slice none 0 0, .int .i64 0, .int .i64 0, .int .i64 0, .slice none 0 0, .slice none 0 0], Hp.rec_ b1 [.int .i64 y.kind, .int .i64 y.who, .int .i64 y.frm, .int .i64 y.item, .int .i64 y.n]] | u1 :: u2 :: _ => [Hp.own FD 3 u2 (m.c.ad.filter fun d => !decide (d.item ≠ y.item)), Hp.own FI 1 cv4 m.c.cn, Hp.rec_ b3 [cv4, .int .i64 m.c.la.n, .int .i64 m.c.la.who, .int .i64 m.c.la.val, .slice m.q.a m.q.n m.q.c, .slice m.r.a m.r.n m.r.c], Hp.rec_ b2 [.slice none 0 0, .int .i64 0, .int .i64 0, .int .i64 0, .slice none 0 0, .slice none 0 0], Hp.rec_ b1 [.int .i64 y.kind, .int .i64 y.who, .int .i64 y.frm, .int .i64 y.item, .int .i64 y.n]]) Try.mixed (by kernel_rfl) rfl ?_
    refine Gw.val rfl rfl rfl rfl rfl (fun us => Val.cast (val_fieldAddr rfl Try.underlying27 rfl Try.ty25 rfl rfl) (v' := ptr b3 5) rfl) ?_
    refine Gw.val rfl rfl rfl rfl rfl (fun us => match us with | [] => val_load rfl Try.ty25 rfl rfl (cell_rec (k := 1) rfl rfl) | [u1] => val_load rfl Try.ty25 rfl rfl (cell_rec (k := 2) rfl rfl) | u1 :: u2 :: _ => val_load rfl Try.ty25 rfl rfl (cell_rec (k := 2) rfl rfl)) ?_
    refine Gw.val rfl rfl rfl rfl rfl (fun us => Val.cast (val_fieldAddr rfl Try.underlying27 rfl Try.ty25 rfl rfl) (v' := ptr b3 4) rfl) ?_
    refine Gw.val rfl rfl rfl rfl rfl (fun us => match us with | [] => val_load rfl Try.ty25 rfl rfl (cell_rec (k := 1) rfl rfl) | [u1] => val_load rfl Try.ty25 rfl rfl (cell_rec (k := 2) rfl rfl) | u1 :: u2 :: _ => val_load rfl Try.ty25 rfl rfl (cell_rec (k := 2) rfl rfl)) ?_
    refine Gw.val rfl rfl rfl rfl rfl (fun us => val_move rfl rfl) ?_
    refine Gw.chg rfl rfl rfl rfl rfl IsS (Eff.mono (eff_callV1 (S := IsS) (p := fun v => Hp.own FD 3 v m.c.ad) (vs := [.slice m.q.a m.q.n m.q.c]) rfl Try.fn39 rfl (fun w H => cloneD_any (hrq.below H.below) (by omega))) (fun _ _ h => ⟨h.1, congrArg sep h.2⟩)) ?_
    intro cv50 hicv50
    refine Gw.chg rfl rfl rfl rfl rfl IsS (Eff.mono (eff_call (vs := [cv50, .func (.func 37) #[] #[ptr b1 0]]) rfl Try.fn38 rfl (fun w H => delete_any (q := fun d => decide (d.item ≠ y.item)) (b1 := b1) hicv50 (by omega) (fun w' ⟨Q, hQ⟩ w1 hb1 d hd => change1_any d (Nat.lt_of_lt_of_le (hQ.sepAt (k := 3) rfl).rec_.1 hb1.size) ((hb1.cell (p := ⟨b1, 3, none⟩) (hQ.sepAt (k := 3) rfl).rec_.1).trans ((hQ.sepAt (k := 3) rfl).cell 3 rfl))) (H.at_ (k := 0) rfl))) (by rintro _ _ ⟨h1, h9⟩; exact ⟨h1, h9⟩)) ?_
    intro dv51 hidv51
    refine Gw.done ?_
    refine Gx.norm (l' := [Hp.own FD 3 dv51 (m.c.ad.filter fun d => !decide (d.item ≠ y.item)), Hp.own FI 1 cv4 m.c.cn, Hp.rec_ b3 [cv4, .int .i64 m.c.la.n, .int .i64 m.c.la.who, .int .i64 m.c.la.val, .slice m.q.a m.q.n m.q.c, .slice m.r.a m.r.n m.r.c], Hp.rec_ b2 [.slice none 0 0, .int .i64 0, .int .i64 0, .int .i64 0, .slice none 0 0, .slice none 0 0], Hp.rec_ b1 [.int .i64 y.kind, .int .i64 y.who, .int .i64 y.frm, .int .i64 y.item, .int .i64 y.n]]) rfl ?_
    refine Gx.eff rfl rfl rfl (eff_callV1 (S := IsS) (p := fun v => Hp.own FD 3 v (uni m.c.go (m.c.ad.filter fun d => !decide (d.item ≠ y.item)))) (vs := [.slice m.r.a m.r.n m.r.c, dv51]) rfl Try.fn33 rfl (fun w H => union_ok (hrr.below H.below) ((H.at_ (k := 0) rfl).sls (by first | omega | (have := List.length_filter_le (fun d => !decide (d.item ≠ y.item)) m.c.ad; omega) | (have := uni_len m.c.ad [(⟨y.item, y.who, nxt m.c.ad y.who⟩ : Dt)]; simp only [List.length_singleton] at this; omega) | (have := uni_len m.c.go (m.c.ad.filter fun d => !decide (d.item ≠ y.item)); have := List.length_filter_le (fun d => !decide (d.item ≠ y.item)) m.c.ad; omega))) (fun d hd => (hbm.gr d hd).rng (by omega) (by omega)) (fun d hd => (hbm.ar d (List.mem_filter.1 hd).1).rng (by omega) (by omega)) (by first | (simp only [List.length_singleton]; omega) | (have := List.length_filter_le (fun d => !decide (d.item ≠ y.item)) m.c.ad; omega)))) ?_
    rintro uv53 _ ⟨hiuv53, rfl⟩
    refine Gx.norm (l' := [Hp.own FD 3 uv53 (uni m.c.go (m.c.ad.filter fun d => !decide (d.item ≠ y.item))), Hp.own FD 3 dv51 (m.c.ad.filter fun d => !decide (d.item ≠ y.item)), Hp.own FI 1 cv4 m.c.cn, Hp.rec_ b3 [cv4, .int .i64 m.c.la.n, .int .i64 m.c.la.who, .int .i64 m.c.la.val, .slice m.q.a m.q.n m.q.c, .slice m.r.a m.r.n m.r.c], Hp.rec_ b2 [.slice none 0 0, .int .i64 0, .int .i64 0, .int .i64 0, .slice none 0 0, .slice none 0 0], Hp.rec_ b1 [.int .i64 y.kind, .int .i64 y.who, .int .i64 y.frm, .int .i64 y.item, .int .i64 y.n]]) rfl ?_
    refine Gx.val rfl rfl rfl (Val.cast (val_fieldAddr rfl Try.underlying27 rfl Try.ty25 rfl rfl) (v' := ptr b3 5) rfl) ?_
    refine Gx.eff0 rfl rfl (eff_store rfl Try.ty25 rfl rfl (us := [uv53]) hiuv53.cellsL rfl hiuv53.all (k := 3) rfl (rfl) (vs' := [cv4, .int .i64 m.c.la.n, .int .i64 m.c.la.who, .int .i64 m.c.la.val, .slice m.q.a m.q.n m.q.c, uv53]) (rfl) (l' := [Hp.own FD 3 uv53 (uni m.c.go (m.c.ad.filter fun d => !decide (d.item ≠ y.item))), Hp.own FD 3 dv51 (m.c.ad.filter fun d => !decide (d.item ≠ y.item)), Hp.own FI 1 cv4 m.c.cn, Hp.rec_ b3 [cv4, .int .i64 m.c.la.n, .int .i64 m.c.la.who, .int .i64 m.c.la.val, .slice m.q.a m.q.n m.q.c, uv53], Hp.rec_ b2 [.slice none 0 0, .int .i64 0, .int .i64 0, .int .i64 0, .slice none 0 0, .slice none 0 0], Hp.rec_ b1 [.int .i64 y.kind, .int .i64 y.who, .int .i64 y.frm, .int .i64 y.item, .int .i64 y.n]]) rfl) ?_
    rintro _ _ rfl
    refine Gx.done ?_
    refine Gx.blkN ?_
    refine Gx.thenN ?_
    refine Gx.seq ?_
    refine Gx.seq ?_
    refine Gx.region ?_
    refine Gx.val rfl rfl rfl (Val.cast (val_loadA rfl Try.ty27 rfl rfl rfl (cells_rec (k := 3) rfl)) (v' := .agg #[cv4, .int .i64 m.c.la.n, .int .i64 m.c.la.who, .int .i64 m.c.la.val, .slice m.q.a m.q.n m.q.c, uv53]) rfl) ?_
    refine Gx.val rfl rfl rfl (val_call (vs := [.int .i64 1, .agg #[cv4, .int .i64 m.c.la.n, .int .i64 m.c.la.who, .int .i64 m.c.la.val, .slice m.q.a m.q.n m.q.c, uv53]]) rfl Try.fn28 rfl (fun w H => size_any (n := 1) (s := m.c.la) hicv4 (hrq.below H.below) ((H.at_ (k := 0) rfl).sls (by first | omega | (have := List.length_filter_le (fun d => !decide (d.item ≠ y.item)) m.c.ad; omega) | (have := uni_len m.c.ad [(⟨y.item, y.who, nxt m.c.ad y.who⟩ : Dt)]; simp only [List.length_singleton] at this; omega) | (have := uni_len m.c.go (m.c.ad.filter fun d => !decide (d.item ≠ y.item)); have := List.length_filter_le (fun d => !decide (d.item ≠ y.item)) m.c.ad; omega))))) ?_
    refine Gx.done ?_
    refine Gx.thenN ?_
    refine Gx.bool rfl (fun h54 => ?_) (fun h54 => ?_)
    · refine Gx.seq ?_
      refine Gx.region ?_
      refine Gx.val rfl rfl rfl (Val.cast (val_loadA rfl Try.ty27 rfl rfl rfl (cells_rec (k := 3) rfl)) (v' := .agg #[cv4, .int .i64 m.c.la.n, .int .i64 m.c.la.who, .int .i64 m.c.la.val, .slice m.q.a m.q.n m.q.c, uv53]) rfl) ?_
      refine Gx.eff0 rfl rfl (eff_store rfl Try.ty27 rfl rfl (us := [cv4, .int .i64 m.c.la.n, .int .i64 m.c.la.who, .int .i64 m.c.la.val, .slice m.q.a m.q.n m.q.c, uv53]) rfl rfl (by simp only [List.all_cons, List.all_nil, Bool.true_and, Bool.and_true, IsS.one hicv4, IsS.one hiuv53] <;> rfl) (k := 4) rfl (rfl) (vs' := [cv4, .int .i64 m.c.la.n, .int .i64 m.c.la.who, .int .i64 m.c.la.val, .slice m.q.a m.q.n m.q.c, uv53]) (rfl) (l' := [Hp.own FD 3 uv53 (uni m.c.go (m.c.ad.filter fun d => !decide (d.item ≠ y.item))), Hp.own FD 3 dv51 (m.c.ad.filter fun d => !decide (d.item ≠ y.item)), Hp.own FI 1 cv4 m.c.cn, Hp.rec_ b3 [cv4, .int .i64 m.c.la.n, .int .i64 m.c.la.who, .int .i64 m.c.la.val, .slice m.q.a m.q.n m.q.c, uv53], Hp.rec_ b2 [cv4, .int .i64 m.c.la.n, .int .i64 m.c.la.who, .int .i64 m.c.la.val, .slice m.q.a m.q.n m.q.c, uv53], Hp.rec_ b1 [.int .i64 y.kind, .int .i64 y.who, .int .i64 y.frm, .int .i64 y.item, .int .i64 y.n]]) rfl) ?_
      rintro _ _ rfl
      refine Gx.val rfl rfl rfl (val_assign rfl rfl) ?_
      refine Gx.done ?_
      refine Gx.thenN ?_
      refine Gx.ret ?_
      refine Gx.thenR ?_
      refine Gx.drop 5 rfl ?_
      refine Gx.drop 3 rfl ?_
      refine Gx.drop 1 rfl ?_
      refine Gx.front 2 rfl ?_
      refine Gx.front 1 rfl ?_
      refine Gx.front 2 rfl ?_
      obtain ⟨sa55, sn56, sc57, rfl⟩ := hicv4
      obtain ⟨sa58, sn59, sc60, rfl⟩ := hiuv53
      refine Gx.norm (l' := [Hp.own FI 1 (.slice sa55 sn56 sc57) m.c.cn, Hp.own FD 3 (.slice sa58 sn59 sc60) (uni m.c.go (m.c.ad.filter fun d => !decide (d.item ≠ y.item))), Hp.rec_ b2 [.slice sa55 sn56 sc57, .int .i64 m.c.la.n, .int .i64 m.c.la.who, .int .i64 m.c.la.val, .slice m.q.a m.q.n m.q.c, .slice sa58 sn59 sc60]]) rfl ?_
      refine Gx.retC2d Try.results23 Try.ty27 rfl rfl (us := [.slice sa55 sn56 sc57, .int .i64 m.c.la.n, .int .i64 m.c.la.who, .int .i64 m.c.la.val, .slice m.q.a m.q.n m.q.c, .slice sa58 sn59 sc60]) rfl (k := 2) rfl rfl ?_
      have hch : chg (ms.map Cm.c) m.c i y = (1, cp0) := by rw [chg_k4 h49, szC_pos (c := ⟨m.c.cn, m.c.la, m.c.ad, (uni m.c.go (m.c.ad.filter fun d => !decide (d.item ≠ y.item)))⟩) h54]
      exact ⟨⟨⟨sa55, sn56, sc57⟩, ⟨m.q.a, m.q.n, m.q.c⟩, ⟨sa58, sn59, sc60⟩, ⟨m.c.cn, m.c.la, m.c.ad, (uni m.c.go (m.c.ad.filter fun d => !decide (d.item ≠ y.item)))⟩⟩, 1, rfl, by rw [hch], fun h => absurd h (by decide)⟩
    refine Gx.skip ?_
    refine Gx.thenN ?_
    refine Gx.seq ?_
    refine Gx.region ?_
    refine Gx.val rfl rfl rfl (Val.cast (val_loadA rfl Try.ty27 rfl rfl rfl (cells_rec (k := 3) rfl)) (v' := .agg #[cv4, .int .i64 m.c.la.n, .int .i64 m.c.la.who, .int .i64 m.c.la.val, .slice m.q.a m.q.n m.q.c, uv53]) rfl) ?_
    refine Gx.eff0 rfl rfl (eff_store rfl Try.ty27 rfl rfl (us := [cv4, .int .i64 m.c.la.n, .int .i64 m.c.la.who, .int .i64 m.c.la.val, .slice m.q.a m.q.n m.q.c, uv53]) rfl rfl (by simp only [List.all_cons, List.all_nil, Bool.true_and, Bool.and_true, IsS.one hicv4, IsS.one hiuv53] <;> rfl) (k := 4) rfl (rfl) (vs' := [cv4, .int .i64 m.c.la.n, .int .i64 m.c.la.who, .int .i64 m.c.la.val, .slice m.q.a m.q.n m.q.c, uv53]) (rfl) (l' := [Hp.own FD 3 uv53 (uni m.c.go (m.c.ad.filter fun d => !decide (d.item ≠ y.item))), Hp.own FD 3 dv51 (m.c.ad.filter fun d => !decide (d.item ≠ y.item)), Hp.own FI 1 cv4 m.c.cn, Hp.rec_ b3 [cv4, .int .i64 m.c.la.n, .int .i64 m.c.la.who, .int .i64 m.c.la.val, .slice m.q.a m.q.n m.q.c, uv53], Hp.rec_ b2 [cv4, .int .i64 m.c.la.n, .int .i64 m.c.la.who, .int .i64 m.c.la.val, .slice m.q.a m.q.n m.q.c, uv53], Hp.rec_ b1 [.int .i64 y.kind, .int .i64 y.who, .int .i64 y.frm, .int .i64 y.item, .int .i64 y.n]]) rfl) ?_
    rintro _ _ rfl
    refine Gx.val rfl rfl rfl (val_assign rfl rfl) ?_
    refine Gx.done ?_
    refine Gx.thenN ?_
    refine Gx.ret ?_
    refine Gx.drop 5 rfl ?_
    refine Gx.drop 3 rfl ?_
    refine Gx.drop 1 rfl ?_
    refine Gx.front 2 rfl ?_
    refine Gx.front 1 rfl ?_
    refine Gx.front 2 rfl ?_
    obtain ⟨sa61, sn62, sc63, rfl⟩ := hicv4
    obtain ⟨sa64, sn65, sc66, rfl⟩ := hiuv53
    refine Gx.norm (l' := [Hp.own FI 1 (.slice sa61 sn62 sc63) m.c.cn, Hp.own FD 3 (.slice sa64 sn65 sc66) (uni m.c.go (m.c.ad.filter fun d => !decide (d.item ≠ y.item))), Hp.rec_ b2 [.slice sa61 sn62 sc63, .int .i64 m.c.la.n, .int .i64 m.c.la.who, .int .i64 m.c.la.val, .slice m.q.a m.q.n m.q.c, .slice sa64 sn65 sc66]]) rfl ?_
    refine Gx.retC2d Try.results23 Try.ty27 rfl rfl (us := [.slice sa61 sn62 sc63, .int .i64 m.c.la.n, .int .i64 m.c.la.who, .int .i64 m.c.la.val, .slice m.q.a m.q.n m.q.c, .slice sa64 sn65 sc66]) rfl (k := 2) rfl rfl ?_
    have hch : chg (ms.map Cm.c) m.c i y = (0, ⟨m.c.cn, m.c.la, m.c.ad, (uni m.c.go (m.c.ad.filter fun d => !decide (d.item ≠ y.item)))⟩) := by rw [chg_k4 h49, szC_neg (c := ⟨m.c.cn, m.c.la, m.c.ad, (uni m.c.go (m.c.ad.filter fun d => !decide (d.item ≠ y.item)))⟩) h54]
    exact ⟨⟨⟨sa61, sn62, sc63⟩, ⟨m.q.a, m.q.n, m.q.c⟩, ⟨sa64, sn65, sc66⟩, ⟨m.c.cn, m.c.la, m.c.ad, (uni m.c.go (m.c.ad.filter fun d => !decide (d.item ≠ y.item)))⟩⟩, 0, rfl, by rw [hch], fun _ => ⟨by rw [hch], fun W w R H => ent_pr H⟩⟩
  refine Gx.seq ?_
  refine Gx.region ?_
  refine Gx.val rfl rfl rfl (val_eql rfl rfl rfl) ?_
  refine Gx.val rfl rfl rfl (val_assign rfl rfl) ?_
  refine Gx.done ?_
  refine Gx.thenN ?_
  refine Gx.decT rfl (by omega) ?_
  refine Gx.seq ?_
  obtain ⟨hf0, hf1⟩ := wf3 (by omega)
  obtain ⟨j, hj⟩ : ∃ j : Nat, y.frm = (j : Int) := ⟨y.frm.toNat, by omega⟩
  obtain ⟨m2, hm2⟩ := get_of_lt (xs := ms) (k := j) (by omega)
  have hr2 := hrows m2 (List.mem_of_getElem? hm2)
  have hb2 := hbd.all _ (List.mem_map_of_mem (List.mem_of_getElem? hm2))
  have hb2c := hb2.cn
  have hb2a := hb2.al
  have hb2g := hb2.gl
  refine Gx.regionO (fun j => j == 6) 9 [0, 1, 2, 3, 4, 5, 6, 7, 8] (fun us => match us with | [] => [Hp.own FI 1 cv4 m.c.cn, Hp.rec_ b3 [cv4, .int .i64 m.c.la.n, .int .i64 m.c.la.who, .int .i64 m.c.la.val, .slice m.q.a m.q.n m.q.c, .slice m.r.a m.r.n m.r.c], Hp.rec_ b2 [.slice none 0 0, .int .i64 0, .int .i64 0, .int .i64 0, .slice none 0 0, .slice none 0 0], Hp.rec_ b1 [.int .i64 y.kind, .int .i64 y.who, .int .i64 y.frm, .int .i64 y.item, .int .i64 y.n]] | u1 :: _ => [Hp.own FI 1 (mK 0 u1) ((mergeC m.c m2.c).2.cn), Hp.own FD 3 (mK 4 u1) ((mergeC m.c m2.c).2.ad), Hp.own FD 3 (mK 5 u1) ((mergeC m.c m2.c).2.go), Hp.own FI 1 cv4 m.c.cn, Hp.rec_ b3 [cv4, .int .i64 m.c.la.n, .int .i64 m.c.la.who, .int .i64 m.c.la.val, .slice m.q.a m.q.n m.q.c, .slice m.r.a m.r.n m.r.c], Hp.rec_ b2 [.slice none 0 0, .int .i64 0, .int .i64 0, .int .i64 0, .slice none 0 0, .slice none 0 0], Hp.rec_ b1 [.int .i64 y.kind, .int .i64 y.who, .int .i64 y.frm, .int .i64 y.item, .int .i64 y.n]]) Try.mixed (by kernel_rfl) rfl ?_
  refine Gw.val0 rfl rfl rfl (by kernel_rfl) rfl rfl (Val.cast (val_loadA rfl Try.ty27 rfl rfl rfl (cells_rec (k := 1) rfl)) (v' := .agg #[cv4, .int .i64 m.c.la.n, .int .i64 m.c.la.who, .int .i64 m.c.la.val, .slice m.q.a m.q.n m.q.c, .slice m.r.a m.r.n m.r.c]) rfl) ?_
  refine Gw.val rfl rfl rfl rfl rfl (fun us => val_move rfl rfl) ?_
  refine Gw.val rfl rfl rfl rfl rfl (fun us => Val.cast (val_fieldAddr rfl Try.underlying42 rfl Try.ty3 rfl rfl) (v' := ptr b1 2) rfl) ?_
  refine Gw.val rfl rfl rfl rfl rfl (fun us => match us with | [] => val_load rfl Try.ty3 rfl rfl (cell_rec (k := 3) rfl rfl) | u1 :: _ => val_load rfl Try.ty3 rfl rfl (cell_rec (k := 6) rfl rfl)) ?_
  refine Gw.val rfl rfl rfl rfl rfl (fun us => val_ixa rfl Try.underlying35 Try.ty27 rfl rfl (j := j) (by omega) (reach_base hv hm2)) ?_
  refine Gw.val rfl rfl rfl rfl rfl (fun us => Val.cast (val_loadA rfl Try.ty27 rfl rfl rfl (cells_base hv hm2)) (v' := .agg #[.slice m2.p.a m2.p.n m2.p.c, .int .i64 m2.c.la.n, .int .i64 m2.c.la.who, .int .i64 m2.c.la.val, .slice m2.q.a m2.q.n m2.q.c, .slice m2.r.a m2.r.n m2.r.c]) rfl) ?_
  refine Gw.chg rfl rfl rfl rfl rfl (fun v => ∃ p q r, IsS p ∧ IsS q ∧ IsS r ∧ v = .tuple #[.agg #[p, .int .i64 (mergeC m.c m2.c).2.la.n, .int .i64 (mergeC m.c m2.c).2.la.who, .int .i64 (mergeC m.c m2.c).2.la.val, q, r], .int .i64 (mergeC m.c m2.c).1]) (Eff.mono (eff_callN (vs := [.agg #[cv4, .int .i64 m.c.la.n, .int .i64 m.c.la.who, .int .i64 m.c.la.val, .slice m.q.a m.q.n m.q.c, .slice m.r.a m.r.n m.r.c], .agg #[.slice m2.p.a m2.p.n m2.p.c, .int .i64 m2.c.la.n, .int .i64 m2.c.la.who, .int .i64 m2.c.la.val, .slice m2.q.a m2.q.n m2.q.c, .slice m2.r.a m2.r.n m2.r.c]]) rfl Try.fn19 rfl (fun w H => merge_any (s := m.c.la) (t := m2.c.la) ((H.at_ (k := 0) rfl).sls (by omega)) (hrq.below H.below) (hrr.below H.below) (hr2.p.below H.below) (hr2.q.below H.below) (hr2.r.below H.below) (fun d hd => (hbm.ar d hd).rng (by omega) (by omega)) (fun d hd => (hbm.gr d hd).rng (by omega) (by omega)) (fun d hd => (hb2.ar d hd).rng (by omega) (by omega)) (fun d hd => (hb2.gr d hd).rng (by omega) (by omega)) (by omega) (by omega) (by omega) (by omega) (by omega) (by omega))) (by rintro _ _ ⟨_, ⟨p, q, r, code, o, hmc, h1, h2, h3, rfl, rfl⟩, rfl⟩; have e1 : (mergeC m.c m2.c).1 = code := congrArg Prod.fst hmc; have e2 : (mergeC m.c m2.c).2 = o := congrArg Prod.snd hmc; subst e1; subst e2; exact ⟨⟨p, q, r, h1, h2, h3, rfl⟩, rfl⟩)) ?_
  rintro _ ⟨mp, mq, mr, himp, himq, himr, rfl⟩
  refine Gw.val rfl rfl rfl rfl rfl (fun us => val_extract rfl rfl rfl) ?_
  refine Gw.val rfl rfl rfl rfl rfl (fun us => val_extract rfl rfl rfl) ?_
  refine Gw.done ?_
  refine Gx.norm (l' := [Hp.own FI 1 mp ((mergeC m.c m2.c).2.cn), Hp.own FD 3 mq ((mergeC m.c m2.c).2.ad), Hp.own FD 3 mr ((mergeC m.c m2.c).2.go), Hp.own FI 1 cv4 m.c.cn, Hp.rec_ b3 [cv4, .int .i64 m.c.la.n, .int .i64 m.c.la.who, .int .i64 m.c.la.val, .slice m.q.a m.q.n m.q.c, .slice m.r.a m.r.n m.r.c], Hp.rec_ b2 [.slice none 0 0, .int .i64 0, .int .i64 0, .int .i64 0, .slice none 0 0, .slice none 0 0], Hp.rec_ b1 [.int .i64 y.kind, .int .i64 y.who, .int .i64 y.frm, .int .i64 y.item, .int .i64 y.n]]) rfl ?_
  refine Gx.eff0 rfl rfl (eff_store rfl Try.ty27 rfl rfl (us := [mp, .int .i64 ((mergeC m.c m2.c).2.la.n), .int .i64 ((mergeC m.c m2.c).2.la.who), .int .i64 ((mergeC m.c m2.c).2.la.val), mq, mr]) rfl rfl (by simp only [List.all_cons, List.all_nil, Bool.true_and, Bool.and_true, IsS.one himp, IsS.one himq, IsS.one himr] <;> rfl) (k := 5) rfl (rfl) (vs' := [mp, .int .i64 ((mergeC m.c m2.c).2.la.n), .int .i64 ((mergeC m.c m2.c).2.la.who), .int .i64 ((mergeC m.c m2.c).2.la.val), mq, mr]) (rfl) (l' := [Hp.own FI 1 mp ((mergeC m.c m2.c).2.cn), Hp.own FD 3 mq ((mergeC m.c m2.c).2.ad), Hp.own FD 3 mr ((mergeC m.c m2.c).2.go), Hp.own FI 1 cv4 m.c.cn, Hp.rec_ b3 [cv4, .int .i64 m.c.la.n, .int .i64 m.c.la.who, .int .i64 m.c.la.val, .slice m.q.a m.q.n m.q.c, .slice m.r.a m.r.n m.r.c], Hp.rec_ b2 [mp, .int .i64 ((mergeC m.c m2.c).2.la.n), .int .i64 ((mergeC m.c m2.c).2.la.who), .int .i64 ((mergeC m.c m2.c).2.la.val), mq, mr], Hp.rec_ b1 [.int .i64 y.kind, .int .i64 y.who, .int .i64 y.frm, .int .i64 y.item, .int .i64 y.n]]) rfl) ?_
  rintro _ _ rfl
  refine Gx.val rfl rfl rfl (val_assign rfl rfl) ?_
  refine Gx.done ?_
  refine Gx.thenN ?_
  refine Gx.ret ?_
  refine Gx.blkR ?_
  refine Gx.thenR ?_
  refine Gx.drop 6 rfl ?_
  refine Gx.drop 4 rfl ?_
  refine Gx.drop 3 rfl ?_
  refine Gx.front 3 rfl ?_
  refine Gx.front 3 rfl ?_
  refine Gx.front 3 rfl ?_
  refine Gx.front 3 rfl ?_
  obtain ⟨sa67, sn68, sc69, rfl⟩ := himp
  obtain ⟨sa70, sn71, sc72, rfl⟩ := himq
  obtain ⟨sa73, sn74, sc75, rfl⟩ := himr
  refine Gx.norm (l' := [Hp.own FI 1 (.slice sa67 sn68 sc69) ((mergeC m.c m2.c).2.cn), Hp.own FD 3 (.slice sa70 sn71 sc72) ((mergeC m.c m2.c).2.ad), Hp.own FD 3 (.slice sa73 sn74 sc75) ((mergeC m.c m2.c).2.go), Hp.rec_ b2 [.slice sa67 sn68 sc69, .int .i64 ((mergeC m.c m2.c).2.la.n), .int .i64 ((mergeC m.c m2.c).2.la.who), .int .i64 ((mergeC m.c m2.c).2.la.val), .slice sa70 sn71 sc72, .slice sa73 sn74 sc75]]) rfl ?_
  refine Gx.retC2d Try.results23 Try.ty27 rfl rfl (us := [.slice sa67 sn68 sc69, .int .i64 ((mergeC m.c m2.c).2.la.n), .int .i64 ((mergeC m.c m2.c).2.la.who), .int .i64 ((mergeC m.c m2.c).2.la.val), .slice sa70 sn71 sc72, .slice sa73 sn74 sc75]) rfl (k := 3) rfl rfl ?_
  have hch : chg (ms.map Cm.c) m.c i y = (mergeC m.c m2.c) := chg_k5 (by omega) hj (by rw [List.getElem?_map, hm2]; rfl)
  exact ⟨⟨⟨sa67, sn68, sc69⟩, ⟨sa70, sn71, sc72⟩, ⟨sa73, sn74, sc75⟩, (mergeC m.c m2.c).2⟩, (mergeC m.c m2.c).1, rfl, by rw [hch], fun _ => ⟨by rw [hch], fun W w R H => ent_pqr (cn := (mergeC m.c m2.c).2.cn) (la := (mergeC m.c m2.c).2.la) (ad := (mergeC m.c m2.c).2.ad) (go := (mergeC m.c m2.c).2.go) H⟩⟩

end Go.Proofs.Ytfpkfbffpkjgbaa
