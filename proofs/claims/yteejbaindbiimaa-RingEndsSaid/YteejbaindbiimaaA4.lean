/- A step of the ring. The walk. No condition. -/
import Derived.Test.YteejbaindbiimaaA3
namespace Go.Proofs.Yteejbaindbiimaa
open Go.RowKit
set_option linter.unusedVariables false
set_option linter.unusedSimpArgs false
set_option maxRecDepth 100000

theorem q_upS2 {s : RS} {i : Nat} (hq : ∀ x ∈ s.ss, x.q.length ≤ 10000) : ∀ y ∈ upS s.ss i (fun x => { x with pt := true }), y.q.length ≤ 100000 := by
  intro y hy
  unfold upS at hy
  split at hy
  · rename_i x hx
    rcases List.mem_or_eq_of_mem_set hy with h | rfl
    · exact Nat.le_trans (hq y h) (by decide)
    · exact Nat.le_trans (hq x (List.mem_of_getElem? hx)) (by decide)
  · exact Nat.le_trans (hq y hy) (by decide)
theorem send_open {W w : World} {S i : Nat} {pv cv chv : Value} {s : RS} {pms : List Pm} {m : Pm} {R0 R T : Hp} (hmap : pms.map Pm.s = s.ss) (hm : pms[i]? = some m) (hb : Hp.big seatH pms = seatH m * R0) (hi : i < s.ss.length) (hn : s.ss.length ≤ 6) (hsent : s.sent ≤ 100000) (hq : ∀ x ∈ upS s.ss i (fun x => { x with pt := true }), x.q.length ≤ 100000)
    (H : Sat W w (sep [recS S pv cv chv s.sent, Hp.own FP 1 pv (pms.map Pm.b), Hp.rec_ m.b [.int .i64 m.s.nm, .bool m.s.pt, m.v], Hp.own SZ 1 m.v m.s.q, R0, Hp.own FN 1 chv s.ch, R, T])) :
    Calls Try.prog 20 #[ptr S 0, .int .i64 ((i : Nat) : Int), .int .i64 m.s.nm] w (Ret W fun v l => v = .tuple #[] ∧ sep l = sep [worldH S cv (sendR s i m.s.nm), R]) := by
  have H2 : Sat W w (sep [recS S pv cv chv s.sent, Hp.own FP 1 pv (pms.map Pm.b), Hp.big seatH pms, Hp.own FN 1 chv s.ch, R]) := by
    have : sep [recS S pv cv chv s.sent, Hp.own FP 1 pv (pms.map Pm.b), Hp.rec_ m.b [.int .i64 m.s.nm, .bool m.s.pt, m.v], Hp.own SZ 1 m.v m.s.q, R0, Hp.own FN 1 chv s.ch, R, T] = T * sep [recS S pv cv chv s.sent, Hp.own FP 1 pv (pms.map Pm.b), Hp.big seatH pms, Hp.own FN 1 chv s.ch, R] := by
      rw [hb]
      show _ * (_ * (_ * (_ * (_ * (_ * (_ * (_ * 1))))))) = _ * (_ * (_ * (((_ * _) * _) * (_ * (_ * 1)))))
      rw [Hp.mul_one]
      simp only [Hp.mul_one]
      ac_rfl
    exact (H.cast this).drop
  have H3 := worldH.shut hmap H2
  rw [sep1] at H3
  refine (send_any (a := m.s.nm) hi hn hsent hq H3).mono ?_
  rintro e w' ⟨v, l, he, ⟨hv, hl⟩, H'⟩
  exact ⟨v, l, he, ⟨hv, by rw [hl, sep1]⟩, H'⟩
theorem step_any {W w : World} {S : Nat} {cv : Value} {s : RS} {c : Mv} {R : Hp} (hn : s.ss.length ≤ 6) (hsent : s.sent ≤ 100000) (hch : s.ch.length ≤ 100000) (hq : ∀ x ∈ s.ss, x.q.length ≤ 10000) (H : Sat W w (worldH S cv s * R)) :
    Calls Try.prog 15 #[ptr S 0, .agg #[.int .i64 c.kind, .int .i64 c.who]] w (Ret W fun v l => v = .int .i64 (stepR s c).1 ∧ sep l = worldH S cv (stepR s c).2 * R) := by
  obtain ⟨kind, who⟩ := c
  dsimp only
  obtain ⟨pv, chv, pms, hmap, H⟩ := worldH.open_ H
  have hpl : pms.length = s.ss.length := by rw [← hmap, List.length_map]
  have hbl : (pms.map Pm.b).length = s.ss.length := by rw [List.length_map, hpl]
  refine Gx.enter (l := [Hp.rec_ S [pv, cv, chv, .int .i64 ((s.sent : Nat) : Int), .int .i64 0], Hp.own FP 1 pv (pms.map Pm.b), Hp.big seatH pms, Hp.own FN 1 chv s.ch, R]) Try.func15 rfl Try.ntmps15 rfl (H) ?_
  refine Gx.know (m' := [(0, ptr S 0), (1, .agg #[.int .i64 kind, .int .i64 who])]) (.cons rfl (.cons rfl .nil)) ?_
  refine Gx.seq ?_
  refine Gx.region ?_
  refine Gx.eff rfl rfl rfl (eff_box rfl rfl (vs := [.int .i64 kind, .int .i64 who]) rfl) ?_
  rintro _ _ ⟨b1, rfl, rfl⟩
  refine Gx.val rfl rfl rfl (val_assign rfl rfl) ?_
  refine Gx.done ?_
  refine Gx.thenN ?_
  refine Gx.seq ?_
  refine Gx.block ?_
  refine Gx.seq ?_
  refine Gx.region ?_
  refine Gx.val rfl rfl rfl (Val.cast (val_fieldAddr rfl Try.underlying34 rfl Try.ty3 rfl rfl) (v' := ptr b1 0) rfl) ?_
  refine Gx.val rfl rfl rfl (val_load rfl Try.ty3 rfl rfl (cell_rec (k := 0) rfl rfl)) ?_
  refine Gx.val rfl rfl rfl (val_neq rfl rfl rfl) ?_
  refine Gx.val rfl rfl rfl (val_move rfl rfl) ?_
  refine Gx.cases (t := 9) rfl (fun h2 => ?_) (fun h2 => ?_)
  · refine Gx.valg rfl rfl rfl rfl rfl (Val.cast (val_fieldAddr rfl Try.underlying34 rfl Try.ty3 rfl rfl) (v' := ptr b1 0) rfl) ?_
    refine Gx.valg rfl rfl rfl rfl rfl (val_load rfl Try.ty3 rfl rfl (cell_rec (k := 0) rfl rfl)) ?_
    refine Gx.valg rfl rfl rfl rfl rfl (val_neq rfl rfl rfl) ?_
    refine Gx.val rfl rfl rfl (val_pickT rfl rfl rfl) ?_
    refine Gx.val rfl rfl rfl (val_assign rfl rfl) ?_
    refine Gx.done ?_
    refine Gx.thenN ?_
    refine Gx.dec rfl (fun h3 => ?_) (fun h3 => ?_)
    · refine Gx.seq ?_
      refine Gx.region ?_
      refine Gx.val rfl rfl rfl (val_assign rfl rfl) ?_
      refine Gx.done ?_
      refine Gx.thenN ?_
      refine Gx.ret ?_
      refine Gx.blkR ?_
      refine Gx.thenR ?_
      refine Gx.front 4 rfl ?_
      refine Gx.front 4 rfl ?_
      refine Gx.front 4 rfl ?_
      refine Gx.front 4 rfl ?_
      refine Gx.sat (l' := [worldH S cv s, Hp.rec_ b1 [.int .i64 kind, .int .i64 who], R]) (fun w H => (worldH.shut (S := S) (cv := cv) (s := s) (pms := pms) (R := sep [Hp.rec_ b1 [.int .i64 kind, .int .i64 who], R]) (hmap) (H.cast (by rw [sep4R] <;> rfl))).cast (by rw [sep1] <;> rfl)) ?_
      refine Gx.drop 1 rfl ?_
      refine Gx.norm (l' := [worldH S cv s, R]) rfl ?_
      refine Gx.ret1 Try.results15 rfl ?_
      refine ⟨?_, ?_⟩
      · unfold stepR; rw [if_pos (by dsimp only; omega)]
      · rw [sep1]; unfold stepR; rw [if_pos (by dsimp only; omega)]
    · refine Gx.seq ?_
      refine Gx.regionQ Try.mixed (by kernel_rfl) ?_
      refine Gq.val rfl rfl rfl (Val.cast (val_fieldAddr rfl Try.underlying34 rfl Try.ty3 rfl rfl) (v' := ptr b1 1) rfl) ?_
      refine Gq.val rfl rfl rfl (val_load rfl Try.ty3 rfl rfl (cell_rec (k := 0) rfl rfl)) ?_
      refine Gq.val rfl rfl rfl (val_lss rfl rfl rfl) ?_
      refine Gq.val rfl rfl rfl (val_move rfl rfl) ?_
      refine Gq.cases (t := 18) rfl (fun h4 => ?_) (fun h4 => ?_)
      · refine Gq.skipg rfl rfl rfl rfl rfl rfl ?_
        refine Gq.skipg rfl rfl rfl rfl rfl rfl ?_
        refine Gq.skipg rfl rfl rfl rfl rfl rfl ?_
        refine Gq.skipg rfl rfl rfl rfl rfl rfl ?_
        refine Gq.skipg rfl rfl rfl rfl rfl rfl ?_
        refine Gq.skipg rfl rfl rfl rfl rfl rfl ?_
        refine Gq.skipg rfl rfl rfl rfl rfl rfl ?_
        refine Gq.skipg rfl rfl rfl rfl rfl rfl ?_
        refine Gq.val rfl rfl rfl (val_pickT rfl rfl rfl) ?_
        refine Gq.val rfl rfl rfl (val_assign rfl rfl) ?_
        refine Gq.done ?_
        refine Gx.thenN ?_
        refine Gx.t rfl ?_
        refine Gx.seq ?_
        refine Gx.region ?_
        refine Gx.val rfl rfl rfl (val_assign rfl rfl) ?_
        refine Gx.done ?_
        refine Gx.thenN ?_
        refine Gx.ret ?_
        refine Gx.blkR ?_
        refine Gx.thenR ?_
        refine Gx.front 4 rfl ?_
        refine Gx.front 4 rfl ?_
        refine Gx.front 4 rfl ?_
        refine Gx.front 4 rfl ?_
        refine Gx.sat (l' := [worldH S cv s, Hp.rec_ b1 [.int .i64 kind, .int .i64 who], R]) (fun w H => (worldH.shut (S := S) (cv := cv) (s := s) (pms := pms) (R := sep [Hp.rec_ b1 [.int .i64 kind, .int .i64 who], R]) (hmap) (H.cast (by rw [sep4R] <;> rfl))).cast (by rw [sep1] <;> rfl)) ?_
        refine Gx.drop 1 rfl ?_
        refine Gx.norm (l' := [worldH S cv s, R]) rfl ?_
        refine Gx.ret1 Try.results15 rfl ?_
        refine ⟨?_, ?_⟩
        · unfold stepR; rw [if_neg (by dsimp only; omega), if_pos (by unfold isN; exact decide_eq_false (by dsimp only; omega))]
        · rw [sep1]; unfold stepR; rw [if_neg (by dsimp only; omega), if_pos (by unfold isN; exact decide_eq_false (by dsimp only; omega))]
      · refine Gq.valg rfl rfl rfl rfl rfl (Val.cast (val_fieldAddr rfl Try.underlying34 rfl Try.ty3 rfl rfl) (v' := ptr b1 1) rfl) ?_
        refine Gq.valg rfl rfl rfl rfl rfl (val_load rfl Try.ty3 rfl rfl (cell_rec (k := 0) rfl rfl)) ?_
        refine Gq.valg rfl rfl rfl rfl rfl (val_move rfl rfl) ?_
        refine Gq.valg rfl rfl rfl rfl rfl (val_nilCheck rfl rfl) ?_
        refine Gq.valg rfl rfl rfl rfl rfl (Val.cast (val_fieldAddr rfl Try.underlying43 rfl Try.ty41 rfl rfl) (v' := ptr S 0) rfl) ?_
        refine Gq.valg rfl rfl rfl rfl rfl (val_load rfl Try.ty41 rfl rfl (cell_rec (k := 1) rfl rfl)) ?_
        refine Gq.valg rfl rfl rfl rfl rfl (val_len rfl Try.underlying41 rfl (len_own (k := 2) rfl)) ?_
        refine Gq.valg rfl rfl rfl rfl rfl (val_geq rfl rfl rfl) ?_
        refine Gq.val rfl rfl rfl (val_pickF rfl rfl rfl) ?_
        refine Gq.val rfl rfl rfl (val_assign rfl rfl) ?_
        refine Gq.done ?_
        refine Gx.thenN ?_
        refine Gx.dec rfl (fun h5 => ?_) (fun h5 => ?_)
        · refine Gx.seq ?_
          refine Gx.region ?_
          refine Gx.val rfl rfl rfl (val_assign rfl rfl) ?_
          refine Gx.done ?_
          refine Gx.thenN ?_
          refine Gx.ret ?_
          refine Gx.blkR ?_
          refine Gx.thenR ?_
          refine Gx.front 4 rfl ?_
          refine Gx.front 4 rfl ?_
          refine Gx.front 4 rfl ?_
          refine Gx.front 4 rfl ?_
          refine Gx.sat (l' := [worldH S cv s, Hp.rec_ b1 [.int .i64 kind, .int .i64 who], R]) (fun w H => (worldH.shut (S := S) (cv := cv) (s := s) (pms := pms) (R := sep [Hp.rec_ b1 [.int .i64 kind, .int .i64 who], R]) (hmap) (H.cast (by rw [sep4R] <;> rfl))).cast (by rw [sep1] <;> rfl)) ?_
          refine Gx.drop 1 rfl ?_
          refine Gx.norm (l' := [worldH S cv s, R]) rfl ?_
          refine Gx.ret1 Try.results15 rfl ?_
          refine ⟨?_, ?_⟩
          · unfold stepR; rw [if_neg (by dsimp only; omega), if_pos (by unfold isN; exact decide_eq_false (by dsimp only; omega))]
          · rw [sep1]; unfold stepR; rw [if_neg (by dsimp only; omega), if_pos (by unfold isN; exact decide_eq_false (by dsimp only; omega))]
        · refine Gx.seq ?_
          refine Gx.region ?_
          refine Gx.val rfl rfl rfl (Val.cast (val_fieldAddr rfl Try.underlying34 rfl Try.ty3 rfl rfl) (v' := ptr b1 0) rfl) ?_
          refine Gx.val rfl rfl rfl (val_load rfl Try.ty3 rfl rfl (cell_rec (k := 0) rfl rfl)) ?_
          refine Gx.val rfl rfl rfl (val_eql rfl rfl rfl) ?_
          refine Gx.val rfl rfl rfl (val_assign rfl rfl) ?_
          refine Gx.done ?_
          refine Gx.thenN ?_
          refine Gx.dec rfl (fun h6 => ?_) (fun h6 => ?_)
          · refine Gx.seq ?_
            obtain ⟨ww, rfl⟩ := Int.eq_ofNat_of_zero_le (a := who) (by omega)
            refine Gx.front 4 rfl ?_
            refine Gx.front 4 rfl ?_
            refine Gx.front 4 rfl ?_
            refine Gx.front 4 rfl ?_
            refine Gx.sat (l' := [worldH S cv s, Hp.rec_ b1 [.int .i64 kind, .int .i64 ((ww : Nat) : Int)], R]) (fun w H => (worldH.shut (S := S) (cv := cv) (s := s) (pms := pms) (R := sep [Hp.rec_ b1 [.int .i64 kind, .int .i64 ((ww : Nat) : Int)], R]) (hmap) (H.cast (by rw [sep4R] <;> rfl))).cast (by rw [sep1] <;> rfl)) ?_
            refine Gx.region ?_
            refine Gx.val rfl rfl rfl (val_move rfl rfl) ?_
            refine Gx.val rfl rfl rfl (Val.cast (val_fieldAddr rfl Try.underlying34 rfl Try.ty3 rfl rfl) (v' := ptr b1 1) rfl) ?_
            refine Gx.val rfl rfl rfl (val_load rfl Try.ty3 rfl rfl (cell_rec (k := 1) rfl rfl)) ?_
            refine Gx.eff rfl rfl rfl (eff_call (vs := [ptr S 0, .int .i64 ((ww : Nat) : Int)]) rfl Try.fn19 rfl (fun w H => take_any (by omega) hn hsent hch hq (H.at_ (k := 0) rfl))) ?_
            rintro _ l7 ⟨rfl, hl7⟩
            refine Gx.sepEq (l' := [worldH S cv (takeR s ww).2, Hp.rec_ b1 [.int .i64 kind, .int .i64 ((ww : Nat) : Int)], R]) hl7 ?_
            refine Gx.val rfl rfl rfl (val_assign rfl rfl) ?_
            refine Gx.done ?_
            refine Gx.thenN ?_
            refine Gx.ret ?_
            refine Gx.blkR ?_
            refine Gx.thenR ?_
            refine Gx.drop 1 rfl ?_
            refine Gx.norm (l' := [worldH S cv (takeR s ww).2, R]) rfl ?_
            refine Gx.ret1 Try.results15 rfl ?_
            refine ⟨?_, ?_⟩
            · unfold stepR; rw [if_neg (by dsimp only; omega), if_neg (by unfold isN; rw [decide_eq_true (by dsimp only; omega)]; exact Bool.noConfusion)]; rw [if_pos (by dsimp only; omega)]; rfl
            · rw [sep1]; unfold stepR; rw [if_neg (by dsimp only; omega), if_neg (by unfold isN; rw [decide_eq_true (by dsimp only; omega)]; exact Bool.noConfusion)]; rw [if_pos (by dsimp only; omega)]; rfl
          · refine Gx.seq ?_
            obtain ⟨ww, rfl⟩ := Int.eq_ofNat_of_zero_le (a := who) (by omega)
            obtain ⟨m, hm⟩ := get_of_lt (xs := pms) (k := ww) (by omega)
            have hbm : (pms.map Pm.b)[ww]? = some m.b := by rw [List.getElem?_map, hm]; rfl
            have hrow := row_of hmap hm
            refine Gx.focus (n := 3) (k := ww) rfl hm (fun R8 hf9 hg10 => ?_)
            refine Gx.norm (l' := [Hp.rec_ b1 [.int .i64 kind, .int .i64 ((ww : Nat) : Int)], Hp.rec_ S [pv, cv, chv, .int .i64 ((s.sent : Nat) : Int), .int .i64 0], Hp.own FP 1 pv (pms.map Pm.b), seatH m, Hp.own FN 1 chv s.ch, R, R8]) rfl ?_
            refine Gx.cleave 3 (p := Hp.rec_ m.b [.int .i64 m.s.nm, .bool m.s.pt, m.v]) (q := Hp.own SZ 1 m.v m.s.q) rfl rfl rfl ?_
            refine Gx.norm (l' := [Hp.rec_ m.b [.int .i64 m.s.nm, .bool m.s.pt, m.v], Hp.own SZ 1 m.v m.s.q, Hp.rec_ b1 [.int .i64 kind, .int .i64 ((ww : Nat) : Int)], Hp.rec_ S [pv, cv, chv, .int .i64 ((s.sent : Nat) : Int), .int .i64 0], Hp.own FP 1 pv (pms.map Pm.b), Hp.own FN 1 chv s.ch, R, R8]) rfl ?_
            refine Gx.regionQ Try.mixed (by kernel_rfl) ?_
            refine Gq.val rfl rfl rfl (val_move rfl rfl) ?_
            refine Gq.val rfl rfl rfl (val_nilCheck rfl rfl) ?_
            refine Gq.val rfl rfl rfl (Val.cast (val_fieldAddr rfl Try.underlying43 rfl Try.ty41 rfl rfl) (v' := ptr S 0) rfl) ?_
            refine Gq.val rfl rfl rfl (val_load rfl Try.ty41 rfl rfl (cell_rec (k := 3) rfl rfl)) ?_
            refine Gq.val rfl rfl rfl (Val.cast (val_fieldAddr rfl Try.underlying34 rfl Try.ty3 rfl rfl) (v' := ptr b1 1) rfl) ?_
            refine Gq.val rfl rfl rfl (val_load rfl Try.ty3 rfl rfl (cell_rec (k := 2) rfl rfl)) ?_
            refine Gq.val rfl rfl rfl (val_ixa rfl Try.underlying41 Try.ty44 rfl rfl (j := ww) (rfl) (reach_own (k := 4) rfl hbm)) ?_
            refine Gq.val rfl rfl rfl (val_load rfl Try.ty44 rfl rfl (cell_own (i := 0) (k := 4) rfl hbm rfl)) ?_
            refine Gq.val rfl rfl rfl (val_nilCheck rfl rfl) ?_
            refine Gq.val rfl rfl rfl (Val.cast (val_fieldAddr rfl Try.underlying46 rfl Try.ty4 rfl rfl) (v' := ptr m.b 1) rfl) ?_
            refine Gq.val rfl rfl rfl (val_load rfl Try.ty4 rfl rfl (cell_rec (k := 0) rfl rfl)) ?_
            refine Gq.val rfl rfl rfl (val_assign rfl rfl) ?_
            refine Gq.done ?_
            refine Gx.thenN ?_
            refine Gx.bool rfl (fun h11 => ?_) (fun h11 => ?_)
            · refine Gx.seq ?_
              refine Gx.region ?_
              refine Gx.val rfl rfl rfl (val_assign rfl rfl) ?_
              refine Gx.done ?_
              refine Gx.thenN ?_
              refine Gx.ret ?_
              refine Gx.blkR ?_
              refine Gx.thenR ?_
              refine Gx.front 7 rfl ?_
              refine Gx.front 2 rfl ?_
              refine Gx.front 2 rfl ?_
              refine Gx.sepEq (l' := [Hp.big seatH pms, Hp.rec_ b1 [.int .i64 kind, .int .i64 ((ww : Nat) : Int)], Hp.rec_ S [pv, cv, chv, .int .i64 ((s.sent : Nat) : Int), .int .i64 0], Hp.own FP 1 pv (pms.map Pm.b), Hp.own FN 1 chv s.ch, R]) (by show Hp.rec_ m.b [.int .i64 m.s.nm, .bool m.s.pt, m.v] * (Hp.own SZ 1 m.v m.s.q * (R8 * _)) = Hp.big seatH pms * _; rw [hf9]; show _ = (Hp.rec_ m.b [.int .i64 m.s.nm, .bool m.s.pt, m.v] * Hp.own SZ 1 m.v m.s.q * R8) * _; simp only [Hp.mul_assoc] <;> rfl) ?_
              refine Gx.front 4 rfl ?_
              refine Gx.front 1 rfl ?_
              refine Gx.front 4 rfl ?_
              refine Gx.front 4 rfl ?_
              refine Gx.sat (l' := [worldH S cv s, Hp.rec_ b1 [.int .i64 kind, .int .i64 ((ww : Nat) : Int)], R]) (fun w H => (worldH.shut (S := S) (cv := cv) (s := s) (pms := pms) (R := sep [Hp.rec_ b1 [.int .i64 kind, .int .i64 ((ww : Nat) : Int)], R]) (hmap) (H.cast (by rw [sep4R] <;> rfl))).cast (by rw [sep1] <;> rfl)) ?_
              refine Gx.drop 1 rfl ?_
              refine Gx.norm (l' := [worldH S cv s, R]) rfl ?_
              refine Gx.ret1 Try.results15 rfl ?_
              refine ⟨?_, ?_⟩
              · unfold stepR; rw [if_neg (by dsimp only; omega), if_neg (by unfold isN; rw [decide_eq_true (by dsimp only; omega)]; exact Bool.noConfusion)]; rw [if_neg (by dsimp only; omega)]; dsimp only [Int.toNat_natCast]; rw [hrow]; dsimp only; rw [if_pos (by assumption)]
              · rw [sep1]; unfold stepR; rw [if_neg (by dsimp only; omega), if_neg (by unfold isN; rw [decide_eq_true (by dsimp only; omega)]; exact Bool.noConfusion)]; rw [if_neg (by dsimp only; omega)]; dsimp only [Int.toNat_natCast]; rw [hrow]; dsimp only; rw [if_pos (by assumption)]
            · refine Gx.skip ?_
              refine Gx.blkN ?_
              refine Gx.thenN ?_
              refine Gx.seq ?_
              refine Gx.front 6 rfl ?_
              refine Gx.front 6 rfl ?_
              refine Gx.front 7 rfl ?_
              refine Gx.front 4 rfl ?_
              refine Gx.front 4 rfl ?_
              refine Gx.front 7 rfl ?_
              refine Gx.front 7 rfl ?_
              refine Gx.regionO (fun j => false) 14 [0, 1, 2, 3, 4, 5, 6, 7, 8, 9, 10, 11, 12, 13] (fun _ => [Hp.rec_ S [pv, cv, chv, .int .i64 ((s.sent : Nat) : Int), .int .i64 0], Hp.own FP 1 pv (pms.map Pm.b), Hp.rec_ m.b [.int .i64 m.s.nm, .bool m.s.pt, m.v], Hp.own SZ 1 m.v m.s.q, R8, Hp.own FN 1 chv s.ch, R, Hp.rec_ b1 [.int .i64 kind, .int .i64 ((ww : Nat) : Int)]]) Try.mixed (by kernel_rfl) rfl ?_
              refine Gw.val rfl rfl rfl rfl rfl (fun us => val_move rfl rfl) ?_
              refine Gw.val rfl rfl rfl rfl rfl (fun us => Val.cast (val_fieldAddr rfl Try.underlying34 rfl Try.ty3 rfl rfl) (v' := ptr b1 1) rfl) ?_
              refine Gw.val0 rfl rfl rfl (by kernel_rfl) rfl rfl (val_load rfl Try.ty3 rfl rfl (cell_rec (k := 7) rfl rfl)) ?_
              refine Gw.val rfl rfl rfl rfl rfl (fun us => val_move rfl rfl) ?_
              refine Gw.val rfl rfl rfl rfl rfl (fun us => val_nilCheck rfl rfl) ?_
              refine Gw.val rfl rfl rfl rfl rfl (fun us => Val.cast (val_fieldAddr rfl Try.underlying43 rfl Try.ty41 rfl rfl) (v' := ptr S 0) rfl) ?_
              refine Gw.val0 rfl rfl rfl (by kernel_rfl) rfl rfl (val_load rfl Try.ty41 rfl rfl (cell_rec (k := 0) rfl rfl)) ?_
              refine Gw.val rfl rfl rfl rfl rfl (fun us => Val.cast (val_fieldAddr rfl Try.underlying34 rfl Try.ty3 rfl rfl) (v' := ptr b1 1) rfl) ?_
              refine Gw.val0 rfl rfl rfl (by kernel_rfl) rfl rfl (val_load rfl Try.ty3 rfl rfl (cell_rec (k := 7) rfl rfl)) ?_
              refine Gw.val0 rfl rfl rfl (by kernel_rfl) rfl rfl (val_ixa rfl Try.underlying41 Try.ty44 rfl rfl (j := ww) (rfl) (reach_own (k := 1) rfl hbm)) ?_
              refine Gw.val0 rfl rfl rfl (by kernel_rfl) rfl rfl (val_load rfl Try.ty44 rfl rfl (cell_own (i := 0) (k := 1) rfl hbm rfl)) ?_
              refine Gw.val rfl rfl rfl rfl rfl (fun us => val_nilCheck rfl rfl) ?_
              refine Gw.val rfl rfl rfl rfl rfl (fun us => Val.cast (val_fieldAddr rfl Try.underlying46 rfl Try.ty3 rfl rfl) (v' := ptr m.b 0) rfl) ?_
              refine Gw.val0 rfl rfl rfl (by kernel_rfl) rfl rfl (val_load rfl Try.ty3 rfl rfl (cell_rec (k := 2) rfl rfl)) ?_
              refine Gw.done ?_
              refine Gx.norm (l' := [Hp.rec_ S [pv, cv, chv, .int .i64 ((s.sent : Nat) : Int), .int .i64 0], Hp.own FP 1 pv (pms.map Pm.b), Hp.rec_ m.b [.int .i64 m.s.nm, .bool m.s.pt, m.v], Hp.own SZ 1 m.v m.s.q, R8, Hp.own FN 1 chv s.ch, R, Hp.rec_ b1 [.int .i64 kind, .int .i64 ((ww : Nat) : Int)]]) rfl ?_
              refine Gx.eff rfl rfl rfl (eff_call (vs := [ptr S 0, .int .i64 ((ww : Nat) : Int), .int .i64 m.s.nm]) rfl Try.fn20 rfl (fun w H => send_open (m := m) (R0 := R8) hmap hm hf9 (by omega) hn hsent (q_upS2 hq) H)) ?_
              rintro _ l12 ⟨rfl, hl12⟩
              refine Gx.sepEq (l' := [worldH S cv (sendR s ww m.s.nm), R]) hl12 ?_
              refine Gx.done ?_
              refine Gx.thenN ?_
              refine Gx.seq ?_
              refine Gx.region ?_
              refine Gx.val rfl rfl rfl (val_assign rfl rfl) ?_
              refine Gx.done ?_
              refine Gx.thenN ?_
              refine Gx.ret ?_
              refine Gx.norm (l' := [worldH S cv (sendR s ww m.s.nm), R]) rfl ?_
              refine Gx.ret1 Try.results15 rfl ?_
              refine ⟨?_, ?_⟩
              · unfold stepR; rw [if_neg (by dsimp only; omega), if_neg (by unfold isN; rw [decide_eq_true (by dsimp only; omega)]; exact Bool.noConfusion)]; rw [if_neg (by dsimp only; omega)]; dsimp only [Int.toNat_natCast]; rw [hrow]; dsimp only; rw [if_neg (by simp_all)]
              · rw [sep1]; unfold stepR; rw [if_neg (by dsimp only; omega), if_neg (by unfold isN; rw [decide_eq_true (by dsimp only; omega)]; exact Bool.noConfusion)]; rw [if_neg (by dsimp only; omega)]; dsimp only [Int.toNat_natCast]; rw [hrow]; dsimp only; rw [if_neg (by simp_all)]
  · refine Gx.skipg rfl rfl rfl rfl rfl rfl ?_
    refine Gx.skipg rfl rfl rfl rfl rfl rfl ?_
    refine Gx.skipg rfl rfl rfl rfl rfl rfl ?_
    refine Gx.val rfl rfl rfl (val_pickF rfl rfl rfl) ?_
    refine Gx.val rfl rfl rfl (val_assign rfl rfl) ?_
    refine Gx.done ?_
    refine Gx.thenN ?_
    refine Gx.f rfl ?_
    refine Gx.seq ?_
    refine Gx.regionQ Try.mixed (by kernel_rfl) ?_
    refine Gq.val rfl rfl rfl (Val.cast (val_fieldAddr rfl Try.underlying34 rfl Try.ty3 rfl rfl) (v' := ptr b1 1) rfl) ?_
    refine Gq.val rfl rfl rfl (val_load rfl Try.ty3 rfl rfl (cell_rec (k := 0) rfl rfl)) ?_
    refine Gq.val rfl rfl rfl (val_lss rfl rfl rfl) ?_
    refine Gq.val rfl rfl rfl (val_move rfl rfl) ?_
    refine Gq.cases (t := 18) rfl (fun h13 => ?_) (fun h13 => ?_)
    · refine Gq.skipg rfl rfl rfl rfl rfl rfl ?_
      refine Gq.skipg rfl rfl rfl rfl rfl rfl ?_
      refine Gq.skipg rfl rfl rfl rfl rfl rfl ?_
      refine Gq.skipg rfl rfl rfl rfl rfl rfl ?_
      refine Gq.skipg rfl rfl rfl rfl rfl rfl ?_
      refine Gq.skipg rfl rfl rfl rfl rfl rfl ?_
      refine Gq.skipg rfl rfl rfl rfl rfl rfl ?_
      refine Gq.skipg rfl rfl rfl rfl rfl rfl ?_
      refine Gq.val rfl rfl rfl (val_pickT rfl rfl rfl) ?_
      refine Gq.val rfl rfl rfl (val_assign rfl rfl) ?_
      refine Gq.done ?_
      refine Gx.thenN ?_
      refine Gx.t rfl ?_
      refine Gx.seq ?_
      refine Gx.region ?_
      refine Gx.val rfl rfl rfl (val_assign rfl rfl) ?_
      refine Gx.done ?_
      refine Gx.thenN ?_
      refine Gx.ret ?_
      refine Gx.blkR ?_
      refine Gx.thenR ?_
      refine Gx.front 4 rfl ?_
      refine Gx.front 4 rfl ?_
      refine Gx.front 4 rfl ?_
      refine Gx.front 4 rfl ?_
      refine Gx.sat (l' := [worldH S cv s, Hp.rec_ b1 [.int .i64 kind, .int .i64 who], R]) (fun w H => (worldH.shut (S := S) (cv := cv) (s := s) (pms := pms) (R := sep [Hp.rec_ b1 [.int .i64 kind, .int .i64 who], R]) (hmap) (H.cast (by rw [sep4R] <;> rfl))).cast (by rw [sep1] <;> rfl)) ?_
      refine Gx.drop 1 rfl ?_
      refine Gx.norm (l' := [worldH S cv s, R]) rfl ?_
      refine Gx.ret1 Try.results15 rfl ?_
      refine ⟨?_, ?_⟩
      · unfold stepR; rw [if_neg (by dsimp only; omega), if_pos (by unfold isN; exact decide_eq_false (by dsimp only; omega))]
      · rw [sep1]; unfold stepR; rw [if_neg (by dsimp only; omega), if_pos (by unfold isN; exact decide_eq_false (by dsimp only; omega))]
    · refine Gq.valg rfl rfl rfl rfl rfl (Val.cast (val_fieldAddr rfl Try.underlying34 rfl Try.ty3 rfl rfl) (v' := ptr b1 1) rfl) ?_
      refine Gq.valg rfl rfl rfl rfl rfl (val_load rfl Try.ty3 rfl rfl (cell_rec (k := 0) rfl rfl)) ?_
      refine Gq.valg rfl rfl rfl rfl rfl (val_move rfl rfl) ?_
      refine Gq.valg rfl rfl rfl rfl rfl (val_nilCheck rfl rfl) ?_
      refine Gq.valg rfl rfl rfl rfl rfl (Val.cast (val_fieldAddr rfl Try.underlying43 rfl Try.ty41 rfl rfl) (v' := ptr S 0) rfl) ?_
      refine Gq.valg rfl rfl rfl rfl rfl (val_load rfl Try.ty41 rfl rfl (cell_rec (k := 1) rfl rfl)) ?_
      refine Gq.valg rfl rfl rfl rfl rfl (val_len rfl Try.underlying41 rfl (len_own (k := 2) rfl)) ?_
      refine Gq.valg rfl rfl rfl rfl rfl (val_geq rfl rfl rfl) ?_
      refine Gq.val rfl rfl rfl (val_pickF rfl rfl rfl) ?_
      refine Gq.val rfl rfl rfl (val_assign rfl rfl) ?_
      refine Gq.done ?_
      refine Gx.thenN ?_
      refine Gx.dec rfl (fun h14 => ?_) (fun h14 => ?_)
      · refine Gx.seq ?_
        refine Gx.region ?_
        refine Gx.val rfl rfl rfl (val_assign rfl rfl) ?_
        refine Gx.done ?_
        refine Gx.thenN ?_
        refine Gx.ret ?_
        refine Gx.blkR ?_
        refine Gx.thenR ?_
        refine Gx.front 4 rfl ?_
        refine Gx.front 4 rfl ?_
        refine Gx.front 4 rfl ?_
        refine Gx.front 4 rfl ?_
        refine Gx.sat (l' := [worldH S cv s, Hp.rec_ b1 [.int .i64 kind, .int .i64 who], R]) (fun w H => (worldH.shut (S := S) (cv := cv) (s := s) (pms := pms) (R := sep [Hp.rec_ b1 [.int .i64 kind, .int .i64 who], R]) (hmap) (H.cast (by rw [sep4R] <;> rfl))).cast (by rw [sep1] <;> rfl)) ?_
        refine Gx.drop 1 rfl ?_
        refine Gx.norm (l' := [worldH S cv s, R]) rfl ?_
        refine Gx.ret1 Try.results15 rfl ?_
        refine ⟨?_, ?_⟩
        · unfold stepR; rw [if_neg (by dsimp only; omega), if_pos (by unfold isN; exact decide_eq_false (by dsimp only; omega))]
        · rw [sep1]; unfold stepR; rw [if_neg (by dsimp only; omega), if_pos (by unfold isN; exact decide_eq_false (by dsimp only; omega))]
      · refine Gx.seq ?_
        refine Gx.region ?_
        refine Gx.val rfl rfl rfl (Val.cast (val_fieldAddr rfl Try.underlying34 rfl Try.ty3 rfl rfl) (v' := ptr b1 0) rfl) ?_
        refine Gx.val rfl rfl rfl (val_load rfl Try.ty3 rfl rfl (cell_rec (k := 0) rfl rfl)) ?_
        refine Gx.val rfl rfl rfl (val_eql rfl rfl rfl) ?_
        refine Gx.val rfl rfl rfl (val_assign rfl rfl) ?_
        refine Gx.done ?_
        refine Gx.thenN ?_
        refine Gx.dec rfl (fun h15 => ?_) (fun h15 => ?_)
        · refine Gx.seq ?_
          obtain ⟨ww, rfl⟩ := Int.eq_ofNat_of_zero_le (a := who) (by omega)
          refine Gx.front 4 rfl ?_
          refine Gx.front 4 rfl ?_
          refine Gx.front 4 rfl ?_
          refine Gx.front 4 rfl ?_
          refine Gx.sat (l' := [worldH S cv s, Hp.rec_ b1 [.int .i64 kind, .int .i64 ((ww : Nat) : Int)], R]) (fun w H => (worldH.shut (S := S) (cv := cv) (s := s) (pms := pms) (R := sep [Hp.rec_ b1 [.int .i64 kind, .int .i64 ((ww : Nat) : Int)], R]) (hmap) (H.cast (by rw [sep4R] <;> rfl))).cast (by rw [sep1] <;> rfl)) ?_
          refine Gx.region ?_
          refine Gx.val rfl rfl rfl (val_move rfl rfl) ?_
          refine Gx.val rfl rfl rfl (Val.cast (val_fieldAddr rfl Try.underlying34 rfl Try.ty3 rfl rfl) (v' := ptr b1 1) rfl) ?_
          refine Gx.val rfl rfl rfl (val_load rfl Try.ty3 rfl rfl (cell_rec (k := 1) rfl rfl)) ?_
          refine Gx.eff rfl rfl rfl (eff_call (vs := [ptr S 0, .int .i64 ((ww : Nat) : Int)]) rfl Try.fn19 rfl (fun w H => take_any (by omega) hn hsent hch hq (H.at_ (k := 0) rfl))) ?_
          rintro _ l16 ⟨rfl, hl16⟩
          refine Gx.sepEq (l' := [worldH S cv (takeR s ww).2, Hp.rec_ b1 [.int .i64 kind, .int .i64 ((ww : Nat) : Int)], R]) hl16 ?_
          refine Gx.val rfl rfl rfl (val_assign rfl rfl) ?_
          refine Gx.done ?_
          refine Gx.thenN ?_
          refine Gx.ret ?_
          refine Gx.blkR ?_
          refine Gx.thenR ?_
          refine Gx.drop 1 rfl ?_
          refine Gx.norm (l' := [worldH S cv (takeR s ww).2, R]) rfl ?_
          refine Gx.ret1 Try.results15 rfl ?_
          refine ⟨?_, ?_⟩
          · unfold stepR; rw [if_neg (by dsimp only; omega), if_neg (by unfold isN; rw [decide_eq_true (by dsimp only; omega)]; exact Bool.noConfusion)]; rw [if_pos (by dsimp only; omega)]; rfl
          · rw [sep1]; unfold stepR; rw [if_neg (by dsimp only; omega), if_neg (by unfold isN; rw [decide_eq_true (by dsimp only; omega)]; exact Bool.noConfusion)]; rw [if_pos (by dsimp only; omega)]; rfl
        · refine Gx.seq ?_
          obtain ⟨ww, rfl⟩ := Int.eq_ofNat_of_zero_le (a := who) (by omega)
          obtain ⟨m, hm⟩ := get_of_lt (xs := pms) (k := ww) (by omega)
          have hbm : (pms.map Pm.b)[ww]? = some m.b := by rw [List.getElem?_map, hm]; rfl
          have hrow := row_of hmap hm
          refine Gx.focus (n := 3) (k := ww) rfl hm (fun R17 hf18 hg19 => ?_)
          refine Gx.norm (l' := [Hp.rec_ b1 [.int .i64 kind, .int .i64 ((ww : Nat) : Int)], Hp.rec_ S [pv, cv, chv, .int .i64 ((s.sent : Nat) : Int), .int .i64 0], Hp.own FP 1 pv (pms.map Pm.b), seatH m, Hp.own FN 1 chv s.ch, R, R17]) rfl ?_
          refine Gx.cleave 3 (p := Hp.rec_ m.b [.int .i64 m.s.nm, .bool m.s.pt, m.v]) (q := Hp.own SZ 1 m.v m.s.q) rfl rfl rfl ?_
          refine Gx.norm (l' := [Hp.rec_ m.b [.int .i64 m.s.nm, .bool m.s.pt, m.v], Hp.own SZ 1 m.v m.s.q, Hp.rec_ b1 [.int .i64 kind, .int .i64 ((ww : Nat) : Int)], Hp.rec_ S [pv, cv, chv, .int .i64 ((s.sent : Nat) : Int), .int .i64 0], Hp.own FP 1 pv (pms.map Pm.b), Hp.own FN 1 chv s.ch, R, R17]) rfl ?_
          refine Gx.regionQ Try.mixed (by kernel_rfl) ?_
          refine Gq.val rfl rfl rfl (val_move rfl rfl) ?_
          refine Gq.val rfl rfl rfl (val_nilCheck rfl rfl) ?_
          refine Gq.val rfl rfl rfl (Val.cast (val_fieldAddr rfl Try.underlying43 rfl Try.ty41 rfl rfl) (v' := ptr S 0) rfl) ?_
          refine Gq.val rfl rfl rfl (val_load rfl Try.ty41 rfl rfl (cell_rec (k := 3) rfl rfl)) ?_
          refine Gq.val rfl rfl rfl (Val.cast (val_fieldAddr rfl Try.underlying34 rfl Try.ty3 rfl rfl) (v' := ptr b1 1) rfl) ?_
          refine Gq.val rfl rfl rfl (val_load rfl Try.ty3 rfl rfl (cell_rec (k := 2) rfl rfl)) ?_
          refine Gq.val rfl rfl rfl (val_ixa rfl Try.underlying41 Try.ty44 rfl rfl (j := ww) (rfl) (reach_own (k := 4) rfl hbm)) ?_
          refine Gq.val rfl rfl rfl (val_load rfl Try.ty44 rfl rfl (cell_own (i := 0) (k := 4) rfl hbm rfl)) ?_
          refine Gq.val rfl rfl rfl (val_nilCheck rfl rfl) ?_
          refine Gq.val rfl rfl rfl (Val.cast (val_fieldAddr rfl Try.underlying46 rfl Try.ty4 rfl rfl) (v' := ptr m.b 1) rfl) ?_
          refine Gq.val rfl rfl rfl (val_load rfl Try.ty4 rfl rfl (cell_rec (k := 0) rfl rfl)) ?_
          refine Gq.val rfl rfl rfl (val_assign rfl rfl) ?_
          refine Gq.done ?_
          refine Gx.thenN ?_
          refine Gx.bool rfl (fun h20 => ?_) (fun h20 => ?_)
          · refine Gx.seq ?_
            refine Gx.region ?_
            refine Gx.val rfl rfl rfl (val_assign rfl rfl) ?_
            refine Gx.done ?_
            refine Gx.thenN ?_
            refine Gx.ret ?_
            refine Gx.blkR ?_
            refine Gx.thenR ?_
            refine Gx.front 7 rfl ?_
            refine Gx.front 2 rfl ?_
            refine Gx.front 2 rfl ?_
            refine Gx.sepEq (l' := [Hp.big seatH pms, Hp.rec_ b1 [.int .i64 kind, .int .i64 ((ww : Nat) : Int)], Hp.rec_ S [pv, cv, chv, .int .i64 ((s.sent : Nat) : Int), .int .i64 0], Hp.own FP 1 pv (pms.map Pm.b), Hp.own FN 1 chv s.ch, R]) (by show Hp.rec_ m.b [.int .i64 m.s.nm, .bool m.s.pt, m.v] * (Hp.own SZ 1 m.v m.s.q * (R17 * _)) = Hp.big seatH pms * _; rw [hf18]; show _ = (Hp.rec_ m.b [.int .i64 m.s.nm, .bool m.s.pt, m.v] * Hp.own SZ 1 m.v m.s.q * R17) * _; simp only [Hp.mul_assoc] <;> rfl) ?_
            refine Gx.front 4 rfl ?_
            refine Gx.front 1 rfl ?_
            refine Gx.front 4 rfl ?_
            refine Gx.front 4 rfl ?_
            refine Gx.sat (l' := [worldH S cv s, Hp.rec_ b1 [.int .i64 kind, .int .i64 ((ww : Nat) : Int)], R]) (fun w H => (worldH.shut (S := S) (cv := cv) (s := s) (pms := pms) (R := sep [Hp.rec_ b1 [.int .i64 kind, .int .i64 ((ww : Nat) : Int)], R]) (hmap) (H.cast (by rw [sep4R] <;> rfl))).cast (by rw [sep1] <;> rfl)) ?_
            refine Gx.drop 1 rfl ?_
            refine Gx.norm (l' := [worldH S cv s, R]) rfl ?_
            refine Gx.ret1 Try.results15 rfl ?_
            refine ⟨?_, ?_⟩
            · unfold stepR; rw [if_neg (by dsimp only; omega), if_neg (by unfold isN; rw [decide_eq_true (by dsimp only; omega)]; exact Bool.noConfusion)]; rw [if_neg (by dsimp only; omega)]; dsimp only [Int.toNat_natCast]; rw [hrow]; dsimp only; rw [if_pos (by assumption)]
            · rw [sep1]; unfold stepR; rw [if_neg (by dsimp only; omega), if_neg (by unfold isN; rw [decide_eq_true (by dsimp only; omega)]; exact Bool.noConfusion)]; rw [if_neg (by dsimp only; omega)]; dsimp only [Int.toNat_natCast]; rw [hrow]; dsimp only; rw [if_pos (by assumption)]
          · refine Gx.skip ?_
            refine Gx.blkN ?_
            refine Gx.thenN ?_
            refine Gx.seq ?_
            refine Gx.front 6 rfl ?_
            refine Gx.front 6 rfl ?_
            refine Gx.front 7 rfl ?_
            refine Gx.front 4 rfl ?_
            refine Gx.front 4 rfl ?_
            refine Gx.front 7 rfl ?_
            refine Gx.front 7 rfl ?_
            refine Gx.regionO (fun j => false) 14 [0, 1, 2, 3, 4, 5, 6, 7, 8, 9, 10, 11, 12, 13] (fun _ => [Hp.rec_ S [pv, cv, chv, .int .i64 ((s.sent : Nat) : Int), .int .i64 0], Hp.own FP 1 pv (pms.map Pm.b), Hp.rec_ m.b [.int .i64 m.s.nm, .bool m.s.pt, m.v], Hp.own SZ 1 m.v m.s.q, R17, Hp.own FN 1 chv s.ch, R, Hp.rec_ b1 [.int .i64 kind, .int .i64 ((ww : Nat) : Int)]]) Try.mixed (by kernel_rfl) rfl ?_
            refine Gw.val rfl rfl rfl rfl rfl (fun us => val_move rfl rfl) ?_
            refine Gw.val rfl rfl rfl rfl rfl (fun us => Val.cast (val_fieldAddr rfl Try.underlying34 rfl Try.ty3 rfl rfl) (v' := ptr b1 1) rfl) ?_
            refine Gw.val0 rfl rfl rfl (by kernel_rfl) rfl rfl (val_load rfl Try.ty3 rfl rfl (cell_rec (k := 7) rfl rfl)) ?_
            refine Gw.val rfl rfl rfl rfl rfl (fun us => val_move rfl rfl) ?_
            refine Gw.val rfl rfl rfl rfl rfl (fun us => val_nilCheck rfl rfl) ?_
            refine Gw.val rfl rfl rfl rfl rfl (fun us => Val.cast (val_fieldAddr rfl Try.underlying43 rfl Try.ty41 rfl rfl) (v' := ptr S 0) rfl) ?_
            refine Gw.val0 rfl rfl rfl (by kernel_rfl) rfl rfl (val_load rfl Try.ty41 rfl rfl (cell_rec (k := 0) rfl rfl)) ?_
            refine Gw.val rfl rfl rfl rfl rfl (fun us => Val.cast (val_fieldAddr rfl Try.underlying34 rfl Try.ty3 rfl rfl) (v' := ptr b1 1) rfl) ?_
            refine Gw.val0 rfl rfl rfl (by kernel_rfl) rfl rfl (val_load rfl Try.ty3 rfl rfl (cell_rec (k := 7) rfl rfl)) ?_
            refine Gw.val0 rfl rfl rfl (by kernel_rfl) rfl rfl (val_ixa rfl Try.underlying41 Try.ty44 rfl rfl (j := ww) (rfl) (reach_own (k := 1) rfl hbm)) ?_
            refine Gw.val0 rfl rfl rfl (by kernel_rfl) rfl rfl (val_load rfl Try.ty44 rfl rfl (cell_own (i := 0) (k := 1) rfl hbm rfl)) ?_
            refine Gw.val rfl rfl rfl rfl rfl (fun us => val_nilCheck rfl rfl) ?_
            refine Gw.val rfl rfl rfl rfl rfl (fun us => Val.cast (val_fieldAddr rfl Try.underlying46 rfl Try.ty3 rfl rfl) (v' := ptr m.b 0) rfl) ?_
            refine Gw.val0 rfl rfl rfl (by kernel_rfl) rfl rfl (val_load rfl Try.ty3 rfl rfl (cell_rec (k := 2) rfl rfl)) ?_
            refine Gw.done ?_
            refine Gx.norm (l' := [Hp.rec_ S [pv, cv, chv, .int .i64 ((s.sent : Nat) : Int), .int .i64 0], Hp.own FP 1 pv (pms.map Pm.b), Hp.rec_ m.b [.int .i64 m.s.nm, .bool m.s.pt, m.v], Hp.own SZ 1 m.v m.s.q, R17, Hp.own FN 1 chv s.ch, R, Hp.rec_ b1 [.int .i64 kind, .int .i64 ((ww : Nat) : Int)]]) rfl ?_
            refine Gx.eff rfl rfl rfl (eff_call (vs := [ptr S 0, .int .i64 ((ww : Nat) : Int), .int .i64 m.s.nm]) rfl Try.fn20 rfl (fun w H => send_open (m := m) (R0 := R17) hmap hm hf18 (by omega) hn hsent (q_upS2 hq) H)) ?_
            rintro _ l21 ⟨rfl, hl21⟩
            refine Gx.sepEq (l' := [worldH S cv (sendR s ww m.s.nm), R]) hl21 ?_
            refine Gx.done ?_
            refine Gx.thenN ?_
            refine Gx.seq ?_
            refine Gx.region ?_
            refine Gx.val rfl rfl rfl (val_assign rfl rfl) ?_
            refine Gx.done ?_
            refine Gx.thenN ?_
            refine Gx.ret ?_
            refine Gx.norm (l' := [worldH S cv (sendR s ww m.s.nm), R]) rfl ?_
            refine Gx.ret1 Try.results15 rfl ?_
            refine ⟨?_, ?_⟩
            · unfold stepR; rw [if_neg (by dsimp only; omega), if_neg (by unfold isN; rw [decide_eq_true (by dsimp only; omega)]; exact Bool.noConfusion)]; rw [if_neg (by dsimp only; omega)]; dsimp only [Int.toNat_natCast]; rw [hrow]; dsimp only; rw [if_neg (by simp_all)]
            · rw [sep1]; unfold stepR; rw [if_neg (by dsimp only; omega), if_neg (by unfold isN; rw [decide_eq_true (by dsimp only; omega)]; exact Bool.noConfusion)]; rw [if_neg (by dsimp only; omega)]; dsimp only [Int.toNat_natCast]; rw [hrow]; dsimp only; rw [if_neg (by simp_all)]

end Go.Proofs.Yteejbaindbiimaa
