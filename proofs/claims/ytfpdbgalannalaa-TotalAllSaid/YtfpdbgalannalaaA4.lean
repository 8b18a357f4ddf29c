/- A step of the machine. The walk. No condition. -/
import Derived.Test.YtfpdbgalannalaaA3
namespace Go.Proofs.Ytfpdbgalannalaa
open Go.RowKit
set_option linter.unusedVariables false
set_option linter.unusedSimpArgs false
set_option maxRecDepth 100000

theorem fin_got : ∀ {l : List Pt} {m b k j : Nat} {p : Pt}, finalT l m b = some k → l[j]? = some p → p.got m ≠ none
  | [], m, b, k, j, p, h, hj => by simp at hj
  | q :: l, m, b, k, j, p, h, hj => by
    simp only [finalT] at h
    cases hg : q.got m with
    | none => rw [hg] at h; cases h
    | some e =>
      rw [hg] at h
      cases j with
      | zero => simp at hj; subst hj; rw [hg]; exact fun q => by cases q
      | succ j => exact fin_got h (by simpa using hj)
theorem WOk.set {L L' i : Nat} {pms : List Pm} {s : TS} {m y : Pm} {many : Nat} (h : WOk L pms s) (hm : pms[i]? = some m) (hL : L ≤ L') (hy : POk L' y) : WOk L' (pms.set i y) ⟨s.ps.set i y.p, many⟩ := by
  refine ⟨by rw [List.map_set, h.ps], fun x hx => ?_⟩
  rcases List.mem_or_eq_of_mem_set hx with hx | rfl
  · exact (h.ok x hx).mono hL
  · exact hy
theorem WOk.same {L L' : Nat} {pms : List Pm} {s : TS} {many : Nat} (h : WOk L pms s) (hL : L ≤ L') : WOk L' pms ⟨s.ps, many⟩ := ⟨h.ps, fun x hx => (h.ok x hx).mono hL⟩
theorem step_any {W w : World} {S L : Nat} {s : TS} {c : Mv} {R : Hp} (hL : L ≤ 900) (hn : s.ps.length ≤ 6) (hmany : s.many ≤ 100000) (hbd : ∀ p ∈ s.ps, p.n ≤ 100000 ∧ p.lst.length ≤ 100000) (hdk : ∀ p e k, s.ps[c.who.toNat]? = some p → p.got c.msg.toNat = some e → finalT s.ps c.msg.toNat 0 = some k → DK (upG p.got c.msg.toNat ⟨k, true, e.hrd⟩)) (H : Sat W w (worldH S L s * R)) :
    Calls Try.prog 14 #[ptr S 0, .agg #[.int .i64 c.kind, .int .i64 c.who, .int .i64 c.msg]] w (Ret W fun v l => v = .int .i64 (stepT s c).1 ∧ sep l = worldH S (L + 1) (stepT s c).2 * R) := by
  obtain ⟨kind, who, msg⟩ := c
  dsimp only at hdk ⊢
  obtain ⟨pv, pms, hok, H⟩ := worldH.open_ H
  have hpl : pms.length ≤ 6 := by have := congrArg List.length hok.ps; simp only [List.length_map] at this; omega
  have hpe : pms.length = s.ps.length := by have := congrArg List.length hok.ps; simpa using this
  have hbl : (pms.map Pm.b).length = s.ps.length := by rw [List.length_map]; exact hpe
  refine Gx.enter (l := [Hp.rec_ S [pv, .int .i64 ((s.many : Nat) : Int)], Hp.own FP 1 pv (pms.map Pm.b), Hp.big procH pms, R]) Try.func14 rfl Try.ntmps14 rfl (H) ?_
  refine Gx.know (m' := [(0, ptr S 0), (1, .agg #[.int .i64 kind, .int .i64 who, .int .i64 msg])]) (.cons rfl (.cons rfl .nil)) ?_
  refine Gx.seq ?_
  refine Gx.region ?_
  refine Gx.eff rfl rfl rfl (eff_box rfl rfl (vs := [.int .i64 kind, .int .i64 who, .int .i64 msg]) rfl) ?_
  rintro _ _ ⟨b1, rfl, rfl⟩
  refine Gx.val rfl rfl rfl (val_assign rfl rfl) ?_
  refine Gx.done ?_
  refine Gx.thenN ?_
  refine Gx.seq ?_
  refine Gx.seq ?_
  refine Gx.region ?_
  refine Gx.val rfl rfl rfl (Val.cast (val_fieldAddr rfl Try.underlying36 rfl Try.ty3 rfl rfl) (v' := ptr b1 0) rfl) ?_
  refine Gx.val rfl rfl rfl (val_load rfl Try.ty3 rfl rfl (cell_rec (k := 0) rfl rfl)) ?_
  refine Gx.val rfl rfl rfl (val_lss rfl rfl rfl) ?_
  refine Gx.val rfl rfl rfl (val_move rfl rfl) ?_
  refine Gx.cases (t := 13) rfl (fun h2 => ?_) (fun h2 => ?_)
  · refine Gx.skipg rfl rfl rfl rfl rfl rfl ?_
    refine Gx.skipg rfl rfl rfl rfl rfl rfl ?_
    refine Gx.skipg rfl rfl rfl rfl rfl rfl ?_
    refine Gx.val rfl rfl rfl (val_pickT rfl rfl rfl) ?_
    refine Gx.done ?_
    refine Gx.thenN ?_
    refine Gx.t rfl ?_
    refine Gx.seq ?_
    refine Gx.region ?_
    refine Gx.val rfl rfl rfl (val_assign rfl rfl) ?_
    refine Gx.done ?_
    refine Gx.thenN ?_
    refine Gx.ret ?_
    refine Gx.thenR ?_
    refine Gx.drop 0 rfl ?_
    refine Gx.front 3 rfl ?_
    refine Gx.front 3 rfl ?_
    refine Gx.front 3 rfl ?_
    refine Gx.front 3 rfl ?_
    refine Gx.sat (l' := [worldH S (L + 1) s, R]) (fun w H => worldH.shut (s := s) (hok.same (Nat.le_succ L)) H) ?_
    refine Gx.ret1 Try.results14 rfl ?_
    refine ⟨?_, ?_⟩
    · unfold stepT; rw [if_pos (by dsimp only; omega)]
    · rw [sep1]; unfold stepT; rw [if_pos (by dsimp only; omega)]
  · refine Gx.valg rfl rfl rfl rfl rfl (Val.cast (val_fieldAddr rfl Try.underlying36 rfl Try.ty3 rfl rfl) (v' := ptr b1 0) rfl) ?_
    refine Gx.valg rfl rfl rfl rfl rfl (val_load rfl Try.ty3 rfl rfl (cell_rec (k := 0) rfl rfl)) ?_
    refine Gx.valg rfl rfl rfl rfl rfl (val_gtr rfl rfl rfl) ?_
    refine Gx.val rfl rfl rfl (val_pickF rfl rfl rfl) ?_
    refine Gx.done ?_
    refine Gx.thenN ?_
    refine Gx.dec rfl (fun h3 => ?_) (fun h3 => ?_)
    · refine Gx.seq ?_
      refine Gx.region ?_
      refine Gx.val rfl rfl rfl (val_assign rfl rfl) ?_
      refine Gx.done ?_
      refine Gx.thenN ?_
      refine Gx.ret ?_
      refine Gx.thenR ?_
      refine Gx.drop 0 rfl ?_
      refine Gx.front 3 rfl ?_
      refine Gx.front 3 rfl ?_
      refine Gx.front 3 rfl ?_
      refine Gx.front 3 rfl ?_
      refine Gx.sat (l' := [worldH S (L + 1) s, R]) (fun w H => worldH.shut (s := s) (hok.same (Nat.le_succ L)) H) ?_
      refine Gx.ret1 Try.results14 rfl ?_
      refine ⟨?_, ?_⟩
      · unfold stepT; rw [if_pos (by dsimp only; omega)]
      · rw [sep1]; unfold stepT; rw [if_pos (by dsimp only; omega)]
    · refine Gx.skip ?_
      refine Gx.thenN ?_
      refine Gx.seq ?_
      refine Gx.seq ?_
      refine Gx.regionQ Try.mixed (by kernel_rfl) ?_
      refine Gq.val rfl rfl rfl (Val.cast (val_fieldAddr rfl Try.underlying36 rfl Try.ty3 rfl rfl) (v' := ptr b1 1) rfl) ?_
      refine Gq.val rfl rfl rfl (val_load rfl Try.ty3 rfl rfl (cell_rec (k := 0) rfl rfl)) ?_
      refine Gq.val rfl rfl rfl (val_lss rfl rfl rfl) ?_
      refine Gq.val rfl rfl rfl (val_move rfl rfl) ?_
      refine Gq.cases (t := 21) rfl (fun h4 => ?_) (fun h4 => ?_)
      · refine Gq.skipg rfl rfl rfl rfl rfl rfl ?_
        refine Gq.skipg rfl rfl rfl rfl rfl rfl ?_
        refine Gq.skipg rfl rfl rfl rfl rfl rfl ?_
        refine Gq.skipg rfl rfl rfl rfl rfl rfl ?_
        refine Gq.skipg rfl rfl rfl rfl rfl rfl ?_
        refine Gq.skipg rfl rfl rfl rfl rfl rfl ?_
        refine Gq.skipg rfl rfl rfl rfl rfl rfl ?_
        refine Gq.skipg rfl rfl rfl rfl rfl rfl ?_
        refine Gq.val rfl rfl rfl (val_pickT rfl rfl rfl) ?_
        refine Gq.done ?_
        refine Gx.thenN ?_
        refine Gx.t rfl ?_
        refine Gx.seq ?_
        refine Gx.region ?_
        refine Gx.val rfl rfl rfl (val_assign rfl rfl) ?_
        refine Gx.done ?_
        refine Gx.thenN ?_
        refine Gx.ret ?_
        refine Gx.thenR ?_
        refine Gx.drop 0 rfl ?_
        refine Gx.front 3 rfl ?_
        refine Gx.front 3 rfl ?_
        refine Gx.front 3 rfl ?_
        refine Gx.front 3 rfl ?_
        refine Gx.sat (l' := [worldH S (L + 1) s, R]) (fun w H => worldH.shut (s := s) (hok.same (Nat.le_succ L)) H) ?_
        refine Gx.ret1 Try.results14 rfl ?_
        refine ⟨?_, ?_⟩
        · unfold stepT; rw [if_neg (by dsimp only; omega)]; rw [if_pos (by unfold isN; exact decide_eq_false (by dsimp only; omega))]
        · rw [sep1]; unfold stepT; rw [if_neg (by dsimp only; omega)]; rw [if_pos (by unfold isN; exact decide_eq_false (by dsimp only; omega))]
      · refine Gq.valg rfl rfl rfl rfl rfl (Val.cast (val_fieldAddr rfl Try.underlying36 rfl Try.ty3 rfl rfl) (v' := ptr b1 1) rfl) ?_
        refine Gq.valg rfl rfl rfl rfl rfl (val_load rfl Try.ty3 rfl rfl (cell_rec (k := 0) rfl rfl)) ?_
        refine Gq.valg rfl rfl rfl rfl rfl (val_move rfl rfl) ?_
        refine Gq.valg rfl rfl rfl rfl rfl (val_nilCheck rfl rfl) ?_
        refine Gq.valg rfl rfl rfl rfl rfl (Val.cast (val_fieldAddr rfl Try.underlying43 rfl Try.ty41 rfl rfl) (v' := ptr S 0) rfl) ?_
        refine Gq.valg rfl rfl rfl rfl rfl (val_load rfl Try.ty41 rfl rfl (cell_rec (k := 1) rfl rfl)) ?_
        refine Gq.valg rfl rfl rfl rfl rfl (val_len rfl Try.underlying41 rfl (len_own (k := 2) rfl)) ?_
        refine Gq.valg rfl rfl rfl rfl rfl (val_geq rfl rfl rfl) ?_
        refine Gq.val rfl rfl rfl (val_pickF rfl rfl rfl) ?_
        refine Gq.done ?_
        refine Gx.thenN ?_
        refine Gx.dec rfl (fun h5 => ?_) (fun h5 => ?_)
        · refine Gx.seq ?_
          refine Gx.region ?_
          refine Gx.val rfl rfl rfl (val_assign rfl rfl) ?_
          refine Gx.done ?_
          refine Gx.thenN ?_
          refine Gx.ret ?_
          refine Gx.thenR ?_
          refine Gx.drop 0 rfl ?_
          refine Gx.front 3 rfl ?_
          refine Gx.front 3 rfl ?_
          refine Gx.front 3 rfl ?_
          refine Gx.front 3 rfl ?_
          refine Gx.sat (l' := [worldH S (L + 1) s, R]) (fun w H => worldH.shut (s := s) (hok.same (Nat.le_succ L)) H) ?_
          refine Gx.ret1 Try.results14 rfl ?_
          refine ⟨?_, ?_⟩
          · unfold stepT; rw [if_neg (by dsimp only; omega)]; rw [if_pos (by unfold isN; exact decide_eq_false (by dsimp only; omega))]
          · rw [sep1]; unfold stepT; rw [if_neg (by dsimp only; omega)]; rw [if_pos (by unfold isN; exact decide_eq_false (by dsimp only; omega))]
        · refine Gx.skip ?_
          refine Gx.thenN ?_
          refine Gx.seq ?_
          refine Gx.seq ?_
          refine Gx.region ?_
          refine Gx.val rfl rfl rfl (Val.cast (val_fieldAddr rfl Try.underlying36 rfl Try.ty3 rfl rfl) (v' := ptr b1 0) rfl) ?_
          refine Gx.val rfl rfl rfl (val_load rfl Try.ty3 rfl rfl (cell_rec (k := 0) rfl rfl)) ?_
          refine Gx.val rfl rfl rfl (val_eql rfl rfl rfl) ?_
          refine Gx.done ?_
          refine Gx.thenN ?_
          refine Gx.dec rfl (fun h6 => ?_) (fun h6 => ?_)
          · refine Gx.seq ?_
            refine Gx.region ?_
            refine Gx.val rfl rfl rfl (val_move rfl rfl) ?_
            refine Gx.val rfl rfl rfl (val_nilCheck rfl rfl) ?_
            refine Gx.val rfl rfl rfl (Val.cast (val_fieldAddr rfl Try.underlying43 rfl Try.ty3 rfl rfl) (v' := ptr S 1) rfl) ?_
            refine Gx.val rfl rfl rfl (val_load rfl Try.ty3 rfl rfl (cell_rec (k := 1) rfl rfl)) ?_
            refine Gx.val rfl rfl rfl (val_add rfl rfl rfl (r := ((s.many + 1 : Nat) : Int)) (w64 (by omega) (by omega))) ?_
            refine Gx.val rfl rfl rfl (val_nilCheck rfl rfl) ?_
            refine Gx.val rfl rfl rfl (Val.cast (val_fieldAddr rfl Try.underlying43 rfl Try.ty3 rfl rfl) (v' := ptr S 1) rfl) ?_
            refine Gx.eff0 rfl rfl (eff_store rfl Try.ty3 rfl rfl (us := [.int .i64 ((s.many + 1 : Nat) : Int)]) rfl rfl rfl (k := 1) rfl (rfl) (vs' := [pv, .int .i64 ((s.many + 1 : Nat) : Int)]) (rfl) (l' := [Hp.rec_ b1 [.int .i64 kind, .int .i64 who, .int .i64 msg], Hp.rec_ S [pv, .int .i64 ((s.many + 1 : Nat) : Int)], Hp.own FP 1 pv (pms.map Pm.b), Hp.big procH pms, R]) rfl) ?_
            rintro _ _ rfl
            refine Gx.done ?_
            refine Gx.thenN ?_
            refine Gx.seq ?_
            refine Gx.region ?_
            refine Gx.val rfl rfl rfl (val_assign rfl rfl) ?_
            refine Gx.done ?_
            refine Gx.thenN ?_
            refine Gx.ret ?_
            refine Gx.thenR ?_
            refine Gx.drop 0 rfl ?_
            refine Gx.front 3 rfl ?_
            refine Gx.front 3 rfl ?_
            refine Gx.front 3 rfl ?_
            refine Gx.front 3 rfl ?_
            refine Gx.sat (l' := [worldH S (L + 1) (⟨s.ps, s.many + 1⟩ : TS), R]) (fun w H => worldH.shut (s := (⟨s.ps, s.many + 1⟩ : TS)) (hok.same (Nat.le_succ L)) H) ?_
            refine Gx.ret1 Try.results14 rfl ?_
            refine ⟨?_, ?_⟩
            · unfold stepT; rw [if_neg (by dsimp only; omega), if_neg (by unfold isN; rw [decide_eq_true (by dsimp only; omega)]; exact Bool.noConfusion)]; rw [if_pos (by dsimp only; omega)]
            · rw [sep1]; unfold stepT; rw [if_neg (by dsimp only; omega), if_neg (by unfold isN; rw [decide_eq_true (by dsimp only; omega)]; exact Bool.noConfusion)]; rw [if_pos (by dsimp only; omega)]
          · refine Gx.skip ?_
            refine Gx.thenN ?_
            refine Gx.seq ?_
            refine Gx.seq ?_
            refine Gx.regionQ Try.mixed (by kernel_rfl) ?_
            refine Gq.val rfl rfl rfl (Val.cast (val_fieldAddr rfl Try.underlying36 rfl Try.ty3 rfl rfl) (v' := ptr b1 2) rfl) ?_
            refine Gq.val rfl rfl rfl (val_load rfl Try.ty3 rfl rfl (cell_rec (k := 0) rfl rfl)) ?_
            refine Gq.val rfl rfl rfl (val_lss rfl rfl rfl) ?_
            refine Gq.val rfl rfl rfl (val_move rfl rfl) ?_
            refine Gq.cases (t := 44) rfl (fun h7 => ?_) (fun h7 => ?_)
            · refine Gq.skipg rfl rfl rfl rfl rfl rfl ?_
              refine Gq.skipg rfl rfl rfl rfl rfl rfl ?_
              refine Gq.skipg rfl rfl rfl rfl rfl rfl ?_
              refine Gq.skipg rfl rfl rfl rfl rfl rfl ?_
              refine Gq.skipg rfl rfl rfl rfl rfl rfl ?_
              refine Gq.skipg rfl rfl rfl rfl rfl rfl ?_
              refine Gq.skipg rfl rfl rfl rfl rfl rfl ?_
              refine Gq.val rfl rfl rfl (val_pickT rfl rfl rfl) ?_
              refine Gq.done ?_
              refine Gx.thenN ?_
              refine Gx.t rfl ?_
              refine Gx.seq ?_
              refine Gx.region ?_
              refine Gx.val rfl rfl rfl (val_assign rfl rfl) ?_
              refine Gx.done ?_
              refine Gx.thenN ?_
              refine Gx.ret ?_
              refine Gx.thenR ?_
              refine Gx.drop 0 rfl ?_
              refine Gx.front 3 rfl ?_
              refine Gx.front 3 rfl ?_
              refine Gx.front 3 rfl ?_
              refine Gx.front 3 rfl ?_
              refine Gx.sat (l' := [worldH S (L + 1) s, R]) (fun w H => worldH.shut (s := s) (hok.same (Nat.le_succ L)) H) ?_
              refine Gx.ret1 Try.results14 rfl ?_
              refine ⟨?_, ?_⟩
              · unfold stepT; rw [if_neg (by dsimp only; omega), if_neg (by unfold isN; rw [decide_eq_true (by dsimp only; omega)]; exact Bool.noConfusion)]; rw [if_neg (by dsimp only; omega), if_pos (by unfold isN; exact decide_eq_false (by dsimp only; omega))]
              · rw [sep1]; unfold stepT; rw [if_neg (by dsimp only; omega), if_neg (by unfold isN; rw [decide_eq_true (by dsimp only; omega)]; exact Bool.noConfusion)]; rw [if_neg (by dsimp only; omega), if_pos (by unfold isN; exact decide_eq_false (by dsimp only; omega))]
            · refine Gq.valg rfl rfl rfl rfl rfl (Val.cast (val_fieldAddr rfl Try.underlying36 rfl Try.ty3 rfl rfl) (v' := ptr b1 2) rfl) ?_
              refine Gq.valg rfl rfl rfl rfl rfl (val_load rfl Try.ty3 rfl rfl (cell_rec (k := 0) rfl rfl)) ?_
              refine Gq.valg rfl rfl rfl rfl rfl (val_move rfl rfl) ?_
              refine Gq.valg rfl rfl rfl rfl rfl (val_nilCheck rfl rfl) ?_
              refine Gq.valg rfl rfl rfl rfl rfl (Val.cast (val_fieldAddr rfl Try.underlying43 rfl Try.ty3 rfl rfl) (v' := ptr S 1) rfl) ?_
              refine Gq.valg rfl rfl rfl rfl rfl (val_load rfl Try.ty3 rfl rfl (cell_rec (k := 1) rfl rfl)) ?_
              refine Gq.valg rfl rfl rfl rfl rfl (val_geq rfl rfl rfl) ?_
              refine Gq.val rfl rfl rfl (val_pickF rfl rfl rfl) ?_
              refine Gq.done ?_
              refine Gx.thenN ?_
              refine Gx.dec rfl (fun h8 => ?_) (fun h8 => ?_)
              · refine Gx.seq ?_
                refine Gx.region ?_
                refine Gx.val rfl rfl rfl (val_assign rfl rfl) ?_
                refine Gx.done ?_
                refine Gx.thenN ?_
                refine Gx.ret ?_
                refine Gx.thenR ?_
                refine Gx.drop 0 rfl ?_
                refine Gx.front 3 rfl ?_
                refine Gx.front 3 rfl ?_
                refine Gx.front 3 rfl ?_
                refine Gx.front 3 rfl ?_
                refine Gx.sat (l' := [worldH S (L + 1) s, R]) (fun w H => worldH.shut (s := s) (hok.same (Nat.le_succ L)) H) ?_
                refine Gx.ret1 Try.results14 rfl ?_
                refine ⟨?_, ?_⟩
                · unfold stepT; rw [if_neg (by dsimp only; omega), if_neg (by unfold isN; rw [decide_eq_true (by dsimp only; omega)]; exact Bool.noConfusion)]; rw [if_neg (by dsimp only; omega), if_pos (by unfold isN; exact decide_eq_false (by dsimp only; omega))]
                · rw [sep1]; unfold stepT; rw [if_neg (by dsimp only; omega), if_neg (by unfold isN; rw [decide_eq_true (by dsimp only; omega)]; exact Bool.noConfusion)]; rw [if_neg (by dsimp only; omega), if_pos (by unfold isN; exact decide_eq_false (by dsimp only; omega))]
              · refine Gx.skip ?_
                refine Gx.thenN ?_
                refine Gx.seq ?_
                obtain ⟨ww, rfl⟩ := Int.eq_ofNat_of_zero_le (a := who) (by omega)
                obtain ⟨mm, rfl⟩ := Int.eq_ofNat_of_zero_le (a := msg) (by omega)
                have hwl : ww < pms.length := by simp only [List.length_map] at *; omega
                obtain ⟨pm, hpm⟩ := get_of_lt hwl
                obtain ⟨hrow, hpok⟩ := hok.row hpm
                have hbm : (pms.map Pm.b)[ww]? = some pm.b := by rw [List.getElem?_map, hpm]; rfl
                have hmm : mm < 4611686018427387904 := by omega
                have hbd2 := hbd pm.p (List.mem_of_getElem? hrow)
                refine Gx.regionQ Try.mixed (by kernel_rfl) ?_
                refine Gq.val rfl rfl rfl (val_move rfl rfl) ?_
                refine Gq.val rfl rfl rfl (val_nilCheck rfl rfl) ?_
                refine Gq.val rfl rfl rfl (Val.cast (val_fieldAddr rfl Try.underlying43 rfl Try.ty41 rfl rfl) (v' := ptr S 0) rfl) ?_
                refine Gq.val rfl rfl rfl (val_load rfl Try.ty41 rfl rfl (cell_rec (k := 1) rfl rfl)) ?_
                refine Gq.val rfl rfl rfl (Val.cast (val_fieldAddr rfl Try.underlying36 rfl Try.ty3 rfl rfl) (v' := ptr b1 1) rfl) ?_
                refine Gq.val rfl rfl rfl (val_load rfl Try.ty3 rfl rfl (cell_rec (k := 0) rfl rfl)) ?_
                refine Gq.val rfl rfl rfl (val_ixa rfl Try.underlying41 Try.ty44 rfl rfl (j := ww) (rfl) (reach_own (k := 2) rfl hbm)) ?_
                refine Gq.val rfl rfl rfl (val_load rfl Try.ty44 rfl rfl (cell_own (i := 0) (k := 2) rfl hbm rfl)) ?_
                refine Gq.val rfl rfl rfl (val_assign rfl rfl) ?_
                refine Gq.done ?_
                refine Gx.thenN ?_
                refine Gx.seq ?_
                refine Gx.focus (n := 3) (k := ww) rfl hpm (fun R9 hf10 hg11 => ?_)
                refine Gx.norm (l' := [Hp.rec_ b1 [.int .i64 kind, .int .i64 ((ww : Nat) : Int), .int .i64 ((mm : Nat) : Int)], Hp.rec_ S [pv, .int .i64 ((s.many : Nat) : Int)], Hp.own FP 1 pv (pms.map Pm.b), procH pm, R, R9]) rfl ?_
                refine Gx.cleave 3 (p := Hp.rec_ pm.b [.int .i64 ((pm.p.n : Nat) : Int), .map (some pm.mb), pm.v]) (q := Hp.map Try.prog 3 natL vB pm.mb pm.ks * (Hp.big entH pm.ks * Hp.own FN 1 pm.v pm.p.lst)) rfl rfl rfl ?_
                refine Gx.cleave 1 (p := Hp.map Try.prog 3 natL vB pm.mb pm.ks) (q := Hp.big entH pm.ks * Hp.own FN 1 pm.v pm.p.lst) rfl rfl rfl ?_
                refine Gx.cleave 1 (p := Hp.big entH pm.ks) (q := Hp.own FN 1 pm.v pm.p.lst) rfl rfl rfl ?_
                refine Gx.norm (l' := [Hp.big entH pm.ks, Hp.own FN 1 pm.v pm.p.lst, Hp.map Try.prog 3 natL vB pm.mb pm.ks, Hp.rec_ pm.b [.int .i64 ((pm.p.n : Nat) : Int), .map (some pm.mb), pm.v], Hp.rec_ b1 [.int .i64 kind, .int .i64 ((ww : Nat) : Int), .int .i64 ((mm : Nat) : Int)], Hp.rec_ S [pv, .int .i64 ((s.many : Nat) : Int)], Hp.own FP 1 pv (pms.map Pm.b), R, R9]) rfl ?_
                rcases hgm : getM pm.ks mm with _ | x
                · have hgt : pm.p.got mm = none := by rw [hpok.eq, hgm]; rfl
                  refine Gx.regionQ Try.mixed (by kernel_rfl) ?_
                  refine Gq.val rfl rfl rfl (val_move rfl rfl) ?_
                  refine Gq.val rfl rfl rfl (val_nilCheck rfl rfl) ?_
                  refine Gq.val rfl rfl rfl (Val.cast (val_fieldAddr rfl Try.underlying47 rfl Try.ty45 rfl rfl) (v' := ptr pm.b 1) rfl) ?_
                  refine Gq.val rfl rfl rfl (val_load rfl Try.ty45 rfl rfl (cell_rec (k := 3) rfl rfl)) ?_
                  refine Gq.val rfl rfl rfl (Val.cast (val_fieldAddr rfl Try.underlying36 rfl Try.ty3 rfl rfl) (v' := ptr b1 2) rfl) ?_
                  refine Gq.val rfl rfl rfl (val_load rfl Try.ty3 rfl rfl (cell_rec (k := 4) rfl rfl)) ?_
                  refine Gq.val rfl rfl rfl (val_lookupN rfl Try.underlying45 Try.kN Try.ty50 rfl rfl (i := mm) (hmm) (k := 2) rfl (hgm)) ?_
                  refine Gq.val rfl rfl rfl (val_move rfl rfl) ?_
                  refine Gq.val rfl rfl rfl (val_extract rfl rfl rfl) ?_
                  refine Gq.val rfl rfl rfl (val_extract rfl rfl rfl) ?_
                  refine Gq.val rfl rfl rfl (val_assign rfl rfl) ?_
                  refine Gq.val rfl rfl rfl (val_assign rfl rfl) ?_
                  refine Gq.done ?_
                  refine Gx.thenN ?_
                  refine Gx.seq ?_
                  refine Gx.seq ?_
                  refine Gx.region ?_
                  refine Gx.val rfl rfl rfl (Val.cast (val_fieldAddr rfl Try.underlying36 rfl Try.ty3 rfl rfl) (v' := ptr b1 0) rfl) ?_
                  refine Gx.val rfl rfl rfl (val_load rfl Try.ty3 rfl rfl (cell_rec (k := 4) rfl rfl)) ?_
                  refine Gx.val rfl rfl rfl (val_eql rfl rfl rfl) ?_
                  refine Gx.done ?_
                  refine Gx.thenN ?_
                  refine Gx.dec rfl (fun h12 => ?_) (fun h12 => ?_)
                  · refine Gx.seq ?_
                    refine Gx.seq ?_
                    refine Gx.region ?_
                    refine Gx.val rfl rfl rfl (val_move rfl rfl) ?_
                    refine Gx.done ?_
                    refine Gx.thenN ?_
                    refine Gx.f rfl ?_
                    refine Gx.skip ?_
                    refine Gx.thenN ?_
                    refine Gx.seq ?_
                    refine Gx.region ?_
                    refine Gx.val rfl rfl rfl (val_move rfl rfl) ?_
                    refine Gx.val rfl rfl rfl (val_nilCheck rfl rfl) ?_
                    refine Gx.val rfl rfl rfl (Val.cast (val_fieldAddr rfl Try.underlying47 rfl Try.ty3 rfl rfl) (v' := ptr pm.b 0) rfl) ?_
                    refine Gx.val rfl rfl rfl (val_load rfl Try.ty3 rfl rfl (cell_rec (k := 3) rfl rfl)) ?_
                    refine Gx.val rfl rfl rfl (val_add rfl rfl rfl (r := ((pm.p.n + 1 : Nat) : Int)) (w64 (by omega) (by omega))) ?_
                    refine Gx.val rfl rfl rfl (val_nilCheck rfl rfl) ?_
                    refine Gx.val rfl rfl rfl (Val.cast (val_fieldAddr rfl Try.underlying47 rfl Try.ty3 rfl rfl) (v' := ptr pm.b 0) rfl) ?_
                    refine Gx.eff0 rfl rfl (eff_store rfl Try.ty3 rfl rfl (us := [.int .i64 ((pm.p.n + 1 : Nat) : Int)]) rfl rfl rfl (k := 3) rfl (rfl) (vs' := [.int .i64 ((pm.p.n + 1 : Nat) : Int), .map (some pm.mb), pm.v]) (rfl) (l' := [Hp.big entH pm.ks, Hp.own FN 1 pm.v pm.p.lst, Hp.map Try.prog 3 natL vB pm.mb pm.ks, Hp.rec_ pm.b [.int .i64 ((pm.p.n + 1 : Nat) : Int), .map (some pm.mb), pm.v], Hp.rec_ b1 [.int .i64 kind, .int .i64 ((ww : Nat) : Int), .int .i64 ((mm : Nat) : Int)], Hp.rec_ S [pv, .int .i64 ((s.many : Nat) : Int)], Hp.own FP 1 pv (pms.map Pm.b), R, R9]) rfl) ?_
                    rintro _ _ rfl
                    refine Gx.done ?_
                    refine Gx.thenN ?_
                    refine Gx.seq ?_
                    refine Gx.regionO (fun j => j == 14) 15 [0, 1, 2, 3, 4, 5, 6, 7, 8, 9, 10, 11, 12, 13, 14] (fun us => match us with | [] => [Hp.big entH pm.ks, Hp.own FN 1 pm.v pm.p.lst, Hp.map Try.prog 3 natL vB pm.mb pm.ks, Hp.rec_ pm.b [.int .i64 ((pm.p.n + 1 : Nat) : Int), .map (some pm.mb), pm.v], Hp.rec_ b1 [.int .i64 kind, .int .i64 ((ww : Nat) : Int), .int .i64 ((mm : Nat) : Int)], Hp.rec_ S [pv, .int .i64 ((s.many : Nat) : Int)], Hp.own FP 1 pv (pms.map Pm.b), R, R9] | u1 :: _ => [Hp.rec_ (pB u1) [.int .i64 ((pm.p.n + 1 : Nat) : Int), .int .i64 ((ww : Nat) : Int), .bool false, .bool false], Hp.big entH pm.ks, Hp.own FN 1 pm.v pm.p.lst, Hp.map Try.prog 3 natL vB pm.mb pm.ks, Hp.rec_ pm.b [.int .i64 ((pm.p.n + 1 : Nat) : Int), .map (some pm.mb), pm.v], Hp.rec_ b1 [.int .i64 kind, .int .i64 ((ww : Nat) : Int), .int .i64 ((mm : Nat) : Int)], Hp.rec_ S [pv, .int .i64 ((s.many : Nat) : Int)], Hp.own FP 1 pv (pms.map Pm.b), R, R9]) Try.mixed (by kernel_rfl) rfl ?_
                    refine Gw.val rfl rfl rfl rfl rfl (fun us => val_move rfl rfl) ?_
                    refine Gw.val rfl rfl rfl rfl rfl (fun us => val_nilCheck rfl rfl) ?_
                    refine Gw.val rfl rfl rfl rfl rfl (fun us => Val.cast (val_fieldAddr rfl Try.underlying47 rfl Try.ty45 rfl rfl) (v' := ptr pm.b 1) rfl) ?_
                    refine Gw.val rfl rfl rfl rfl rfl (fun us => match us with | [] => val_load rfl Try.ty45 rfl rfl (cell_rec (k := 3) rfl rfl) | u1 :: _ => val_load rfl Try.ty45 rfl rfl (cell_rec (k := 4) rfl rfl)) ?_
                    refine Gw.val rfl rfl rfl rfl rfl (fun us => Val.cast (val_fieldAddr rfl Try.underlying36 rfl Try.ty3 rfl rfl) (v' := ptr b1 2) rfl) ?_
                    refine Gw.val rfl rfl rfl rfl rfl (fun us => match us with | [] => val_load rfl Try.ty3 rfl rfl (cell_rec (k := 4) rfl rfl) | u1 :: _ => val_load rfl Try.ty3 rfl rfl (cell_rec (k := 5) rfl rfl)) ?_
                    refine Gw.val rfl rfl rfl rfl rfl (fun us => val_move rfl rfl) ?_
                    refine Gw.val rfl rfl rfl rfl rfl (fun us => val_nilCheck rfl rfl) ?_
                    refine Gw.val rfl rfl rfl rfl rfl (fun us => Val.cast (val_fieldAddr rfl Try.underlying47 rfl Try.ty3 rfl rfl) (v' := ptr pm.b 0) rfl) ?_
                    refine Gw.val rfl rfl rfl rfl rfl (fun us => match us with | [] => val_load rfl Try.ty3 rfl rfl (cell_rec (k := 3) rfl rfl) | u1 :: _ => val_load rfl Try.ty3 rfl rfl (cell_rec (k := 4) rfl rfl)) ?_
                    refine Gw.val rfl rfl rfl rfl rfl (fun us => Val.cast (val_fieldAddr rfl Try.underlying36 rfl Try.ty3 rfl rfl) (v' := ptr b1 1) rfl) ?_
                    refine Gw.val rfl rfl rfl rfl rfl (fun us => match us with | [] => val_load rfl Try.ty3 rfl rfl (cell_rec (k := 4) rfl rfl) | u1 :: _ => val_load rfl Try.ty3 rfl rfl (cell_rec (k := 5) rfl rfl)) ?_
                    refine Gw.val rfl rfl rfl rfl rfl (fun us => val_build rfl (qs := [(0, .int .i64 ((pm.p.n + 1 : Nat) : Int)), (1, .int .i64 ((ww : Nat) : Int))]) rfl rfl (fun w => by go_simp) (v := .agg #[.int .i64 ((pm.p.n + 1 : Nat) : Int), .int .i64 ((ww : Nat) : Int)])) ?_
                    refine Gw.val rfl rfl rfl rfl rfl (fun us => val_build rfl (qs := [(0, .agg #[.int .i64 ((pm.p.n + 1 : Nat) : Int), .int .i64 ((ww : Nat) : Int)])]) rfl rfl (fun w => by go_simp) (v := .agg #[.int .i64 ((pm.p.n + 1 : Nat) : Int), .int .i64 ((ww : Nat) : Int), .bool false, .bool false])) ?_
                    refine Gw.chg rfl rfl rfl rfl rfl (fun v => ∃ b13, v = ptr b13 0) (Eff.mono (eff_box rfl rfl (vs := [.int .i64 ((pm.p.n + 1 : Nat) : Int), .int .i64 ((ww : Nat) : Int), .bool false, .bool false]) rfl) (by rintro _ _ ⟨b13, rfl, rfl⟩; exact ⟨⟨b13, rfl⟩, rfl⟩)) ?_
                    rintro _ ⟨b13, rfl⟩
                    refine Gw.done ?_
                    refine Gx.norm (l' := [Hp.rec_ b13 [.int .i64 ((pm.p.n + 1 : Nat) : Int), .int .i64 ((ww : Nat) : Int), .bool false, .bool false], Hp.big entH pm.ks, Hp.own FN 1 pm.v pm.p.lst, Hp.map Try.prog 3 natL vB pm.mb pm.ks, Hp.rec_ pm.b [.int .i64 ((pm.p.n + 1 : Nat) : Int), .map (some pm.mb), pm.v], Hp.rec_ b1 [.int .i64 kind, .int .i64 ((ww : Nat) : Int), .int .i64 ((mm : Nat) : Int)], Hp.rec_ S [pv, .int .i64 ((s.many : Nat) : Int)], Hp.own FP 1 pv (pms.map Pm.b), R, R9]) rfl ?_
                    refine Gx.eff0 rfl rfl (eff_mapUpdate (vf := vB) rfl Try.underlying45 Try.kN natK rfl rfl rfl (i := mm) (r := (⟨b13, ⟨(pm.p.n + 1) * 8 + ww, false, false⟩⟩ : Em)) (hmm) (k := 3) rfl (by have := hpok.len; unfold maxLen; omega) (l' := [Hp.rec_ b13 [.int .i64 ((pm.p.n + 1 : Nat) : Int), .int .i64 ((ww : Nat) : Int), .bool false, .bool false], Hp.big entH pm.ks, Hp.own FN 1 pm.v pm.p.lst, Hp.map Try.prog 3 natL vB pm.mb (putM pm.ks mm (⟨b13, ⟨(pm.p.n + 1) * 8 + ww, false, false⟩⟩ : Em)), Hp.rec_ pm.b [.int .i64 ((pm.p.n + 1 : Nat) : Int), .map (some pm.mb), pm.v], Hp.rec_ b1 [.int .i64 kind, .int .i64 ((ww : Nat) : Int), .int .i64 ((mm : Nat) : Int)], Hp.rec_ S [pv, .int .i64 ((s.many : Nat) : Int)], Hp.own FP 1 pv (pms.map Pm.b), R, R9]) rfl) ?_
                    rintro _ _ rfl
                    refine Gx.done ?_
                    refine Gx.thenN ?_
                    refine Gx.seq ?_
                    refine Gx.region ?_
                    refine Gx.val rfl rfl rfl (val_assign rfl rfl) ?_
                    refine Gx.done ?_
                    refine Gx.thenN ?_
                    refine Gx.ret ?_
                    refine Gx.thenR ?_
                    refine Gx.front 0 rfl ?_
                    refine Gx.front 1 rfl ?_
                    refine Gx.sepEq (l' := [Hp.big entH (putM pm.ks mm (⟨b13, ⟨(pm.p.n + 1) * 8 + ww, false, false⟩⟩ : Em)), Hp.own FN 1 pm.v pm.p.lst, Hp.map Try.prog 3 natL vB pm.mb (putM pm.ks mm (⟨b13, ⟨(pm.p.n + 1) * 8 + ww, false, false⟩⟩ : Em)), Hp.rec_ pm.b [.int .i64 ((pm.p.n + 1 : Nat) : Int), .map (some pm.mb), pm.v], Hp.rec_ b1 [.int .i64 kind, .int .i64 ((ww : Nat) : Int), .int .i64 ((mm : Nat) : Int)], Hp.rec_ S [pv, .int .i64 ((s.many : Nat) : Int)], Hp.own FP 1 pv (pms.map Pm.b), R, R9]) (by show Hp.big entH pm.ks * (Hp.rec_ b13 [.int .i64 ((pm.p.n + 1 : Nat) : Int), .int .i64 ((ww : Nat) : Int), .bool false, .bool false] * _) = Hp.big entH (putM pm.ks mm (⟨b13, ⟨(pm.p.n + 1) * 8 + ww, false, false⟩⟩ : Em)) * _; rw [putM_none _ hgm, Hp.big_append]; show _ = Hp.big entH pm.ks * (entH (mm, (⟨b13, ⟨(pm.p.n + 1) * 8 + ww, false, false⟩⟩ : Em)) * 1) * _; unfold entH; rw [Hp.mul_one, Hp.mul_assoc, show ((pm.p.n + 1) * 8 + ww) / 8 = pm.p.n + 1 from by omega, show ((pm.p.n + 1) * 8 + ww) % 8 = ww from by omega] <;> rfl) ?_
                    refine Gx.front 8 rfl ?_
                    refine Gx.front 2 rfl ?_
                    refine Gx.front 2 rfl ?_
                    refine Gx.front 3 rfl ?_
                    refine Gx.front 4 rfl ?_
                    refine Gx.sepEq (l' := [Hp.big procH (pms.set ww (⟨pm.b, pm.mb, pm.v, putM pm.ks mm (⟨b13, ⟨(pm.p.n + 1) * 8 + ww, false, false⟩⟩ : Em), (⟨pm.p.n + 1, upG pm.p.got mm ⟨(pm.p.n + 1) * 8 + ww, false, false⟩, pm.p.lst⟩ : Pt)⟩ : Pm)), Hp.rec_ b1 [.int .i64 kind, .int .i64 ((ww : Nat) : Int), .int .i64 ((mm : Nat) : Int)], Hp.rec_ S [pv, .int .i64 ((s.many : Nat) : Int)], Hp.own FP 1 pv (pms.map Pm.b), R]) (by show Hp.rec_ pm.b [.int .i64 ((pm.p.n + 1 : Nat) : Int), .map (some pm.mb), pm.v] * (Hp.map Try.prog 3 natL vB pm.mb (putM pm.ks mm (⟨b13, ⟨(pm.p.n + 1) * 8 + ww, false, false⟩⟩ : Em)) * (Hp.big entH (putM pm.ks mm (⟨b13, ⟨(pm.p.n + 1) * 8 + ww, false, false⟩⟩ : Em)) * (Hp.own FN 1 pm.v pm.p.lst * (R9 * _)))) = Hp.big procH (pms.set ww (⟨pm.b, pm.mb, pm.v, putM pm.ks mm (⟨b13, ⟨(pm.p.n + 1) * 8 + ww, false, false⟩⟩ : Em), (⟨pm.p.n + 1, upG pm.p.got mm ⟨(pm.p.n + 1) * 8 + ww, false, false⟩, pm.p.lst⟩ : Pt)⟩ : Pm)) * _; rw [(hg11 (⟨pm.b, pm.mb, pm.v, putM pm.ks mm (⟨b13, ⟨(pm.p.n + 1) * 8 + ww, false, false⟩⟩ : Em), (⟨pm.p.n + 1, upG pm.p.got mm ⟨(pm.p.n + 1) * 8 + ww, false, false⟩, pm.p.lst⟩ : Pt)⟩ : Pm))]; show _ = (Hp.rec_ pm.b [.int .i64 ((pm.p.n + 1 : Nat) : Int), .map (some pm.mb), pm.v] * (Hp.map Try.prog 3 natL vB pm.mb (putM pm.ks mm (⟨b13, ⟨(pm.p.n + 1) * 8 + ww, false, false⟩⟩ : Em)) * (Hp.big entH (putM pm.ks mm (⟨b13, ⟨(pm.p.n + 1) * 8 + ww, false, false⟩⟩ : Em)) * Hp.own FN 1 pm.v pm.p.lst)) * R9) * _; simp only [Hp.mul_assoc] <;> rfl) ?_
                    refine Gx.drop 1 rfl ?_
                    refine Gx.front 3 rfl ?_
                    refine Gx.front 1 rfl ?_
                    refine Gx.front 3 rfl ?_
                    refine Gx.front 3 rfl ?_
                    refine Gx.norm (l' := [Hp.rec_ S [pv, .int .i64 ((s.many : Nat) : Int)], Hp.own FP 1 pv ((pms.set ww (⟨pm.b, pm.mb, pm.v, putM pm.ks mm (⟨b13, ⟨(pm.p.n + 1) * 8 + ww, false, false⟩⟩ : Em), (⟨pm.p.n + 1, upG pm.p.got mm ⟨(pm.p.n + 1) * 8 + ww, false, false⟩, pm.p.lst⟩ : Pt)⟩ : Pm)).map Pm.b), Hp.big procH (pms.set ww (⟨pm.b, pm.mb, pm.v, putM pm.ks mm (⟨b13, ⟨(pm.p.n + 1) * 8 + ww, false, false⟩⟩ : Em), (⟨pm.p.n + 1, upG pm.p.got mm ⟨(pm.p.n + 1) * 8 + ww, false, false⟩, pm.p.lst⟩ : Pt)⟩ : Pm)), R]) (by rw [show ((pms.set ww (⟨pm.b, pm.mb, pm.v, putM pm.ks mm (⟨b13, ⟨(pm.p.n + 1) * 8 + ww, false, false⟩⟩ : Em), (⟨pm.p.n + 1, upG pm.p.got mm ⟨(pm.p.n + 1) * 8 + ww, false, false⟩, pm.p.lst⟩ : Pt)⟩ : Pm)).map Pm.b) = pms.map Pm.b from set_bM hpm rfl] <;> rfl) ?_
                    refine Gx.sat (l' := [worldH S (L + 1) (⟨s.ps.set ww (⟨pm.p.n + 1, upG pm.p.got mm ⟨(pm.p.n + 1) * 8 + ww, false, false⟩, pm.p.lst⟩ : Pt), s.many⟩ : TS), R]) (fun w H => worldH.shut (s := (⟨s.ps.set ww (⟨pm.p.n + 1, upG pm.p.got mm ⟨(pm.p.n + 1) * 8 + ww, false, false⟩, pm.p.lst⟩ : Pt), s.many⟩ : TS)) (hok.set (y := (⟨pm.b, pm.mb, pm.v, putM pm.ks mm (⟨b13, ⟨(pm.p.n + 1) * 8 + ww, false, false⟩⟩ : Em), (⟨pm.p.n + 1, upG pm.p.got mm ⟨(pm.p.n + 1) * 8 + ww, false, false⟩, pm.p.lst⟩ : Pt)⟩ : Pm)) hpm (Nat.le_succ L) (hpok.add (⟨b13, ⟨(pm.p.n + 1) * 8 + ww, false, false⟩⟩ : Em) hgt (by omega))) H) ?_
                    refine Gx.ret1 Try.results14 rfl ?_
                    refine ⟨?_, ?_⟩
                    · unfold stepT; rw [if_neg (by dsimp only; omega), if_neg (by unfold isN; rw [decide_eq_true (by dsimp only; omega)]; exact Bool.noConfusion)]; rw [if_neg (by dsimp only; omega), if_neg (by unfold isN; rw [decide_eq_true (by dsimp only; omega)]; exact Bool.noConfusion)]; dsimp only [Int.toNat_natCast]; rw [hrow]; dsimp only; rw [if_pos (by omega), hgt]
                    · rw [sep1]; unfold stepT; rw [if_neg (by dsimp only; omega), if_neg (by unfold isN; rw [decide_eq_true (by dsimp only; omega)]; exact Bool.noConfusion)]; rw [if_neg (by dsimp only; omega), if_neg (by unfold isN; rw [decide_eq_true (by dsimp only; omega)]; exact Bool.noConfusion)]; dsimp only [Int.toNat_natCast]; rw [hrow]; dsimp only; rw [if_pos (by omega), hgt]
                  · refine Gx.skip ?_
                    refine Gx.thenN ?_
                    refine Gx.seq ?_
                    refine Gx.front 8 rfl ?_
                    refine Gx.front 2 rfl ?_
                    refine Gx.front 2 rfl ?_
                    refine Gx.front 3 rfl ?_
                    refine Gx.front 4 rfl ?_
                    refine Gx.sepEq (l' := [Hp.big procH pms, Hp.rec_ b1 [.int .i64 kind, .int .i64 ((ww : Nat) : Int), .int .i64 ((mm : Nat) : Int)], Hp.rec_ S [pv, .int .i64 ((s.many : Nat) : Int)], Hp.own FP 1 pv (pms.map Pm.b), R]) (by show Hp.rec_ pm.b [.int .i64 ((pm.p.n : Nat) : Int), .map (some pm.mb), pm.v] * (Hp.map Try.prog 3 natL vB pm.mb pm.ks * (Hp.big entH pm.ks * (Hp.own FN 1 pm.v pm.p.lst * (R9 * _)))) = Hp.big procH pms * _; rw [hf10]; show _ = (Hp.rec_ pm.b [.int .i64 ((pm.p.n : Nat) : Int), .map (some pm.mb), pm.v] * (Hp.map Try.prog 3 natL vB pm.mb pm.ks * (Hp.big entH pm.ks * Hp.own FN 1 pm.v pm.p.lst)) * R9) * _; simp only [Hp.mul_assoc] <;> rfl) ?_
                    rcases hfi : finalT s.ps mm 0 with _ | kf
                    · refine Gx.region ?_
                      refine Gx.val rfl rfl rfl (val_move rfl rfl) ?_
                      refine Gx.val rfl rfl rfl (Val.cast (val_fieldAddr rfl Try.underlying36 rfl Try.ty3 rfl rfl) (v' := ptr b1 2) rfl) ?_
                      refine Gx.val rfl rfl rfl (val_load rfl Try.ty3 rfl rfl (cell_rec (k := 1) rfl rfl)) ?_
                      refine Gx.eff rfl rfl rfl (eff_call (vs := [ptr S 0, .int .i64 ((mm : Nat) : Int)]) rfl Try.fn16 rfl (fun w H => by have h9 := final_c hok hmm hpl (H.at3 (k := 2) (k' := 2) (k'' := 0) rfl rfl rfl); rw [hfi] at h9; exact h9)) ?_
                      rintro _ l14 ⟨rfl, hl14⟩
                      refine Gx.sepEq (l' := [Hp.rec_ S [pv, .int .i64 ((s.many : Nat) : Int)], Hp.own FP 1 pv (pms.map Pm.b), Hp.big procH pms, Hp.rec_ b1 [.int .i64 kind, .int .i64 ((ww : Nat) : Int), .int .i64 ((mm : Nat) : Int)], R]) hl14 ?_
                      refine Gx.val rfl rfl rfl (val_move rfl rfl) ?_
                      refine Gx.val rfl rfl rfl (val_extract rfl rfl rfl) ?_
                      refine Gx.val rfl rfl rfl (val_extract rfl rfl rfl) ?_
                      refine Gx.eff rfl rfl rfl (eff_alloc rfl Try.ty53 (vs := [.int .i64 0, .int .i64 0]) rfl) ?_
                      rintro _ _ ⟨b15, rfl, rfl⟩
                      refine Gx.eff0 rfl rfl (eff_store rfl Try.ty53 rfl rfl (us := [.int .i64 0, .int .i64 0]) rfl rfl rfl (k := 0) rfl (rfl) (vs' := [.int .i64 0, .int .i64 0]) (rfl) (l' := [Hp.rec_ b15 [.int .i64 0, .int .i64 0], Hp.rec_ S [pv, .int .i64 ((s.many : Nat) : Int)], Hp.own FP 1 pv (pms.map Pm.b), Hp.big procH pms, Hp.rec_ b1 [.int .i64 kind, .int .i64 ((ww : Nat) : Int), .int .i64 ((mm : Nat) : Int)], R]) rfl) ?_
                      rintro _ _ rfl
                      refine Gx.val rfl rfl rfl (val_assign rfl rfl) ?_
                      refine Gx.done ?_
                      refine Gx.thenN ?_
                      refine Gx.seq ?_
                      refine Gx.seq ?_
                      refine Gx.region ?_
                      refine Gx.val rfl rfl rfl (val_move rfl rfl) ?_
                      refine Gx.val rfl rfl rfl (Val.cast (val_not rfl rfl) (v' := .bool true) rfl) ?_
                      refine Gx.val rfl rfl rfl (val_move rfl rfl) ?_
                      refine Gx.skipg rfl rfl rfl rfl rfl rfl ?_
                      refine Gx.skipg rfl rfl rfl rfl rfl rfl ?_
                      refine Gx.skipg rfl rfl rfl rfl rfl rfl ?_
                      refine Gx.skipg rfl rfl rfl rfl rfl rfl ?_
                      refine Gx.val rfl rfl rfl (val_pickT rfl rfl rfl) ?_
                      refine Gx.done ?_
                      refine Gx.thenN ?_
                      refine Gx.t rfl ?_
                      refine Gx.seq ?_
                      refine Gx.region ?_
                      refine Gx.val rfl rfl rfl (val_assign rfl rfl) ?_
                      refine Gx.done ?_
                      refine Gx.thenN ?_
                      refine Gx.ret ?_
                      refine Gx.thenR ?_
                      refine Gx.drop 4 rfl ?_
                      refine Gx.drop 0 rfl ?_
                      refine Gx.front 3 rfl ?_
                      refine Gx.front 3 rfl ?_
                      refine Gx.front 3 rfl ?_
                      refine Gx.front 3 rfl ?_
                      refine Gx.sat (l' := [worldH S (L + 1) s, R]) (fun w H => worldH.shut (s := s) (hok.same (Nat.le_succ L)) H) ?_
                      refine Gx.ret1 Try.results14 rfl ?_
                      refine ⟨?_, ?_⟩
                      · unfold stepT; rw [if_neg (by dsimp only; omega), if_neg (by unfold isN; rw [decide_eq_true (by dsimp only; omega)]; exact Bool.noConfusion)]; rw [if_neg (by dsimp only; omega), if_neg (by unfold isN; rw [decide_eq_true (by dsimp only; omega)]; exact Bool.noConfusion)]; dsimp only [Int.toNat_natCast]; rw [hrow]; dsimp only; rw [if_neg (by omega), hfi]
                      · rw [sep1]; unfold stepT; rw [if_neg (by dsimp only; omega), if_neg (by unfold isN; rw [decide_eq_true (by dsimp only; omega)]; exact Bool.noConfusion)]; rw [if_neg (by dsimp only; omega), if_neg (by unfold isN; rw [decide_eq_true (by dsimp only; omega)]; exact Bool.noConfusion)]; dsimp only [Int.toNat_natCast]; rw [hrow]; dsimp only; rw [if_neg (by omega), hfi]
                    · exact absurd hgt (fin_got hfi hrow)
                · have hgt : pm.p.got mm = some x.e := by rw [hpok.eq, hgm]; rfl
                  obtain ⟨kk, hkk, _⟩ := getM_index hgm
                  refine Gx.regionQ Try.mixed (by kernel_rfl) ?_
                  refine Gq.val rfl rfl rfl (val_move rfl rfl) ?_
                  refine Gq.val rfl rfl rfl (val_nilCheck rfl rfl) ?_
                  refine Gq.val rfl rfl rfl (Val.cast (val_fieldAddr rfl Try.underlying47 rfl Try.ty45 rfl rfl) (v' := ptr pm.b 1) rfl) ?_
                  refine Gq.val rfl rfl rfl (val_load rfl Try.ty45 rfl rfl (cell_rec (k := 3) rfl rfl)) ?_
                  refine Gq.val rfl rfl rfl (Val.cast (val_fieldAddr rfl Try.underlying36 rfl Try.ty3 rfl rfl) (v' := ptr b1 2) rfl) ?_
                  refine Gq.val rfl rfl rfl (val_load rfl Try.ty3 rfl rfl (cell_rec (k := 4) rfl rfl)) ?_
                  refine Gq.val rfl rfl rfl (val_lookupS rfl Try.underlying45 Try.kN Try.ty50 rfl rfl (i := mm) (hmm) (k := 2) rfl (hgm)) ?_
                  refine Gq.val rfl rfl rfl (val_move rfl rfl) ?_
                  refine Gq.val rfl rfl rfl (val_extract rfl rfl rfl) ?_
                  refine Gq.val rfl rfl rfl (val_extract rfl rfl rfl) ?_
                  refine Gq.val rfl rfl rfl (val_assign rfl rfl) ?_
                  refine Gq.val rfl rfl rfl (val_assign rfl rfl) ?_
                  refine Gq.done ?_
                  refine Gx.thenN ?_
                  refine Gx.seq ?_
                  refine Gx.seq ?_
                  refine Gx.region ?_
                  refine Gx.val rfl rfl rfl (Val.cast (val_fieldAddr rfl Try.underlying36 rfl Try.ty3 rfl rfl) (v' := ptr b1 0) rfl) ?_
                  refine Gx.val rfl rfl rfl (val_load rfl Try.ty3 rfl rfl (cell_rec (k := 4) rfl rfl)) ?_
                  refine Gx.val rfl rfl rfl (val_eql rfl rfl rfl) ?_
                  refine Gx.done ?_
                  refine Gx.thenN ?_
                  refine Gx.dec rfl (fun h16 => ?_) (fun h16 => ?_)
                  · refine Gx.seq ?_
                    refine Gx.seq ?_
                    refine Gx.region ?_
                    refine Gx.val rfl rfl rfl (val_move rfl rfl) ?_
                    refine Gx.done ?_
                    refine Gx.thenN ?_
                    refine Gx.t rfl ?_
                    refine Gx.seq ?_
                    refine Gx.region ?_
                    refine Gx.val rfl rfl rfl (val_assign rfl rfl) ?_
                    refine Gx.done ?_
                    refine Gx.thenN ?_
                    refine Gx.ret ?_
                    refine Gx.thenR ?_
                    refine Gx.thenR ?_
                    refine Gx.front 8 rfl ?_
                    refine Gx.front 2 rfl ?_
                    refine Gx.front 2 rfl ?_
                    refine Gx.front 3 rfl ?_
                    refine Gx.front 4 rfl ?_
                    refine Gx.sepEq (l' := [Hp.big procH pms, Hp.rec_ b1 [.int .i64 kind, .int .i64 ((ww : Nat) : Int), .int .i64 ((mm : Nat) : Int)], Hp.rec_ S [pv, .int .i64 ((s.many : Nat) : Int)], Hp.own FP 1 pv (pms.map Pm.b), R]) (by show Hp.rec_ pm.b [.int .i64 ((pm.p.n : Nat) : Int), .map (some pm.mb), pm.v] * (Hp.map Try.prog 3 natL vB pm.mb pm.ks * (Hp.big entH pm.ks * (Hp.own FN 1 pm.v pm.p.lst * (R9 * _)))) = Hp.big procH pms * _; rw [hf10]; show _ = (Hp.rec_ pm.b [.int .i64 ((pm.p.n : Nat) : Int), .map (some pm.mb), pm.v] * (Hp.map Try.prog 3 natL vB pm.mb pm.ks * (Hp.big entH pm.ks * Hp.own FN 1 pm.v pm.p.lst)) * R9) * _; simp only [Hp.mul_assoc] <;> rfl) ?_
                    refine Gx.drop 1 rfl ?_
                    refine Gx.front 3 rfl ?_
                    refine Gx.front 1 rfl ?_
                    refine Gx.front 3 rfl ?_
                    refine Gx.front 3 rfl ?_
                    refine Gx.sat (l' := [worldH S (L + 1) s, R]) (fun w H => worldH.shut (s := s) (hok.same (Nat.le_succ L)) H) ?_
                    refine Gx.ret1 Try.results14 rfl ?_
                    refine ⟨?_, ?_⟩
                    · unfold stepT; rw [if_neg (by dsimp only; omega), if_neg (by unfold isN; rw [decide_eq_true (by dsimp only; omega)]; exact Bool.noConfusion)]; rw [if_neg (by dsimp only; omega), if_neg (by unfold isN; rw [decide_eq_true (by dsimp only; omega)]; exact Bool.noConfusion)]; dsimp only [Int.toNat_natCast]; rw [hrow]; dsimp only; rw [if_pos (by omega), hgt]
                    · rw [sep1]; unfold stepT; rw [if_neg (by dsimp only; omega), if_neg (by unfold isN; rw [decide_eq_true (by dsimp only; omega)]; exact Bool.noConfusion)]; rw [if_neg (by dsimp only; omega), if_neg (by unfold isN; rw [decide_eq_true (by dsimp only; omega)]; exact Bool.noConfusion)]; dsimp only [Int.toNat_natCast]; rw [hrow]; dsimp only; rw [if_pos (by omega), hgt]
                  · refine Gx.skip ?_
                    refine Gx.thenN ?_
                    refine Gx.seq ?_
                    refine Gx.front 8 rfl ?_
                    refine Gx.front 2 rfl ?_
                    refine Gx.front 2 rfl ?_
                    refine Gx.front 3 rfl ?_
                    refine Gx.front 4 rfl ?_
                    refine Gx.sepEq (l' := [Hp.big procH pms, Hp.rec_ b1 [.int .i64 kind, .int .i64 ((ww : Nat) : Int), .int .i64 ((mm : Nat) : Int)], Hp.rec_ S [pv, .int .i64 ((s.many : Nat) : Int)], Hp.own FP 1 pv (pms.map Pm.b), R]) (by show Hp.rec_ pm.b [.int .i64 ((pm.p.n : Nat) : Int), .map (some pm.mb), pm.v] * (Hp.map Try.prog 3 natL vB pm.mb pm.ks * (Hp.big entH pm.ks * (Hp.own FN 1 pm.v pm.p.lst * (R9 * _)))) = Hp.big procH pms * _; rw [hf10]; show _ = (Hp.rec_ pm.b [.int .i64 ((pm.p.n : Nat) : Int), .map (some pm.mb), pm.v] * (Hp.map Try.prog 3 natL vB pm.mb pm.ks * (Hp.big entH pm.ks * Hp.own FN 1 pm.v pm.p.lst)) * R9) * _; simp only [Hp.mul_assoc] <;> rfl) ?_
                    rcases hfi : finalT s.ps mm 0 with _ | kf
                    · refine Gx.region ?_
                      refine Gx.val rfl rfl rfl (val_move rfl rfl) ?_
                      refine Gx.val rfl rfl rfl (Val.cast (val_fieldAddr rfl Try.underlying36 rfl Try.ty3 rfl rfl) (v' := ptr b1 2) rfl) ?_
                      refine Gx.val rfl rfl rfl (val_load rfl Try.ty3 rfl rfl (cell_rec (k := 1) rfl rfl)) ?_
                      refine Gx.eff rfl rfl rfl (eff_call (vs := [ptr S 0, .int .i64 ((mm : Nat) : Int)]) rfl Try.fn16 rfl (fun w H => by have h9 := final_c hok hmm hpl (H.at3 (k := 2) (k' := 2) (k'' := 0) rfl rfl rfl); rw [hfi] at h9; exact h9)) ?_
                      rintro _ l17 ⟨rfl, hl17⟩
                      refine Gx.sepEq (l' := [Hp.rec_ S [pv, .int .i64 ((s.many : Nat) : Int)], Hp.own FP 1 pv (pms.map Pm.b), Hp.big procH pms, Hp.rec_ b1 [.int .i64 kind, .int .i64 ((ww : Nat) : Int), .int .i64 ((mm : Nat) : Int)], R]) hl17 ?_
                      refine Gx.val rfl rfl rfl (val_move rfl rfl) ?_
                      refine Gx.val rfl rfl rfl (val_extract rfl rfl rfl) ?_
                      refine Gx.val rfl rfl rfl (val_extract rfl rfl rfl) ?_
                      refine Gx.eff rfl rfl rfl (eff_alloc rfl Try.ty53 (vs := [.int .i64 0, .int .i64 0]) rfl) ?_
                      rintro _ _ ⟨b18, rfl, rfl⟩
                      refine Gx.eff0 rfl rfl (eff_store rfl Try.ty53 rfl rfl (us := [.int .i64 0, .int .i64 0]) rfl rfl rfl (k := 0) rfl (rfl) (vs' := [.int .i64 0, .int .i64 0]) (rfl) (l' := [Hp.rec_ b18 [.int .i64 0, .int .i64 0], Hp.rec_ S [pv, .int .i64 ((s.many : Nat) : Int)], Hp.own FP 1 pv (pms.map Pm.b), Hp.big procH pms, Hp.rec_ b1 [.int .i64 kind, .int .i64 ((ww : Nat) : Int), .int .i64 ((mm : Nat) : Int)], R]) rfl) ?_
                      rintro _ _ rfl
                      refine Gx.val rfl rfl rfl (val_assign rfl rfl) ?_
                      refine Gx.done ?_
                      refine Gx.thenN ?_
                      refine Gx.seq ?_
                      refine Gx.seq ?_
                      refine Gx.region ?_
                      refine Gx.val rfl rfl rfl (val_move rfl rfl) ?_
                      refine Gx.val rfl rfl rfl (Val.cast (val_not rfl rfl) (v' := .bool true) rfl) ?_
                      refine Gx.val rfl rfl rfl (val_move rfl rfl) ?_
                      refine Gx.skipg rfl rfl rfl rfl rfl rfl ?_
                      refine Gx.skipg rfl rfl rfl rfl rfl rfl ?_
                      refine Gx.skipg rfl rfl rfl rfl rfl rfl ?_
                      refine Gx.skipg rfl rfl rfl rfl rfl rfl ?_
                      refine Gx.val rfl rfl rfl (val_pickT rfl rfl rfl) ?_
                      refine Gx.done ?_
                      refine Gx.thenN ?_
                      refine Gx.t rfl ?_
                      refine Gx.seq ?_
                      refine Gx.region ?_
                      refine Gx.val rfl rfl rfl (val_assign rfl rfl) ?_
                      refine Gx.done ?_
                      refine Gx.thenN ?_
                      refine Gx.ret ?_
                      refine Gx.thenR ?_
                      refine Gx.drop 4 rfl ?_
                      refine Gx.drop 0 rfl ?_
                      refine Gx.front 3 rfl ?_
                      refine Gx.front 3 rfl ?_
                      refine Gx.front 3 rfl ?_
                      refine Gx.front 3 rfl ?_
                      refine Gx.sat (l' := [worldH S (L + 1) s, R]) (fun w H => worldH.shut (s := s) (hok.same (Nat.le_succ L)) H) ?_
                      refine Gx.ret1 Try.results14 rfl ?_
                      refine ⟨?_, ?_⟩
                      · unfold stepT; rw [if_neg (by dsimp only; omega), if_neg (by unfold isN; rw [decide_eq_true (by dsimp only; omega)]; exact Bool.noConfusion)]; rw [if_neg (by dsimp only; omega), if_neg (by unfold isN; rw [decide_eq_true (by dsimp only; omega)]; exact Bool.noConfusion)]; dsimp only [Int.toNat_natCast]; rw [hrow]; dsimp only; rw [if_neg (by omega), hfi]
                      · rw [sep1]; unfold stepT; rw [if_neg (by dsimp only; omega), if_neg (by unfold isN; rw [decide_eq_true (by dsimp only; omega)]; exact Bool.noConfusion)]; rw [if_neg (by dsimp only; omega), if_neg (by unfold isN; rw [decide_eq_true (by dsimp only; omega)]; exact Bool.noConfusion)]; dsimp only [Int.toNat_natCast]; rw [hrow]; dsimp only; rw [if_neg (by omega), hfi]
                    · refine Gx.region ?_
                      refine Gx.val rfl rfl rfl (val_move rfl rfl) ?_
                      refine Gx.val rfl rfl rfl (Val.cast (val_fieldAddr rfl Try.underlying36 rfl Try.ty3 rfl rfl) (v' := ptr b1 2) rfl) ?_
                      refine Gx.val rfl rfl rfl (val_load rfl Try.ty3 rfl rfl (cell_rec (k := 1) rfl rfl)) ?_
                      refine Gx.eff rfl rfl rfl (eff_call (vs := [ptr S 0, .int .i64 ((mm : Nat) : Int)]) rfl Try.fn16 rfl (fun w H => by have h9 := final_c hok hmm hpl (H.at3 (k := 2) (k' := 2) (k'' := 0) rfl rfl rfl); rw [hfi] at h9; exact h9)) ?_
                      rintro _ l19 ⟨rfl, hl19⟩
                      refine Gx.sepEq (l' := [Hp.rec_ S [pv, .int .i64 ((s.many : Nat) : Int)], Hp.own FP 1 pv (pms.map Pm.b), Hp.big procH pms, Hp.rec_ b1 [.int .i64 kind, .int .i64 ((ww : Nat) : Int), .int .i64 ((mm : Nat) : Int)], R]) hl19 ?_
                      refine Gx.val rfl rfl rfl (val_move rfl rfl) ?_
                      refine Gx.val rfl rfl rfl (val_extract rfl rfl rfl) ?_
                      refine Gx.val rfl rfl rfl (val_extract rfl rfl rfl) ?_
                      refine Gx.eff rfl rfl rfl (eff_alloc rfl Try.ty53 (vs := [.int .i64 0, .int .i64 0]) rfl) ?_
                      rintro _ _ ⟨b20, rfl, rfl⟩
                      refine Gx.eff0 rfl rfl (eff_store rfl Try.ty53 rfl rfl (us := [.int .i64 ((kf / 8 : Nat) : Int), .int .i64 ((kf % 8 : Nat) : Int)]) rfl rfl rfl (k := 0) rfl (rfl) (vs' := [.int .i64 ((kf / 8 : Nat) : Int), .int .i64 ((kf % 8 : Nat) : Int)]) (rfl) (l' := [Hp.rec_ b20 [.int .i64 ((kf / 8 : Nat) : Int), .int .i64 ((kf % 8 : Nat) : Int)], Hp.rec_ S [pv, .int .i64 ((s.many : Nat) : Int)], Hp.own FP 1 pv (pms.map Pm.b), Hp.big procH pms, Hp.rec_ b1 [.int .i64 kind, .int .i64 ((ww : Nat) : Int), .int .i64 ((mm : Nat) : Int)], R]) rfl) ?_
                      rintro _ _ rfl
                      refine Gx.val rfl rfl rfl (val_assign rfl rfl) ?_
                      refine Gx.done ?_
                      refine Gx.thenN ?_
                      refine Gx.seq ?_
                      refine Gx.seq ?_
                      refine Gx.focus (n := 3) (k := ww) rfl hpm (fun R21 hf22 hg23 => ?_)
                      refine Gx.norm (l' := [Hp.rec_ b20 [.int .i64 ((kf / 8 : Nat) : Int), .int .i64 ((kf % 8 : Nat) : Int)], Hp.rec_ S [pv, .int .i64 ((s.many : Nat) : Int)], Hp.own FP 1 pv (pms.map Pm.b), procH pm, Hp.rec_ b1 [.int .i64 kind, .int .i64 ((ww : Nat) : Int), .int .i64 ((mm : Nat) : Int)], R, R21]) rfl ?_
                      refine Gx.cleave 3 (p := Hp.rec_ pm.b [.int .i64 ((pm.p.n : Nat) : Int), .map (some pm.mb), pm.v]) (q := Hp.map Try.prog 3 natL vB pm.mb pm.ks * (Hp.big entH pm.ks * Hp.own FN 1 pm.v pm.p.lst)) rfl rfl rfl ?_
                      refine Gx.cleave 1 (p := Hp.map Try.prog 3 natL vB pm.mb pm.ks) (q := Hp.big entH pm.ks * Hp.own FN 1 pm.v pm.p.lst) rfl rfl rfl ?_
                      refine Gx.cleave 1 (p := Hp.big entH pm.ks) (q := Hp.own FN 1 pm.v pm.p.lst) rfl rfl rfl ?_
                      refine Gx.norm (l' := [Hp.big entH pm.ks, Hp.own FN 1 pm.v pm.p.lst, Hp.map Try.prog 3 natL vB pm.mb pm.ks, Hp.rec_ pm.b [.int .i64 ((pm.p.n : Nat) : Int), .map (some pm.mb), pm.v], Hp.rec_ b20 [.int .i64 ((kf / 8 : Nat) : Int), .int .i64 ((kf % 8 : Nat) : Int)], Hp.rec_ S [pv, .int .i64 ((s.many : Nat) : Int)], Hp.own FP 1 pv (pms.map Pm.b), Hp.rec_ b1 [.int .i64 kind, .int .i64 ((ww : Nat) : Int), .int .i64 ((mm : Nat) : Int)], R, R21]) rfl ?_
                      refine Gx.focus (n := 0) (k := kk) rfl hkk (fun R24 hf25 hg26 => ?_)
                      refine Gx.norm (l' := [entH (mm, x), Hp.own FN 1 pm.v pm.p.lst, Hp.map Try.prog 3 natL vB pm.mb pm.ks, Hp.rec_ pm.b [.int .i64 ((pm.p.n : Nat) : Int), .map (some pm.mb), pm.v], Hp.rec_ b20 [.int .i64 ((kf / 8 : Nat) : Int), .int .i64 ((kf % 8 : Nat) : Int)], Hp.rec_ S [pv, .int .i64 ((s.many : Nat) : Int)], Hp.own FP 1 pv (pms.map Pm.b), Hp.rec_ b1 [.int .i64 kind, .int .i64 ((ww : Nat) : Int), .int .i64 ((mm : Nat) : Int)], R, R21, R24]) rfl ?_
                      refine Gx.norm (l' := [Hp.rec_ x.b [.int .i64 ((x.e.k / 8 : Nat) : Int), .int .i64 ((x.e.k % 8 : Nat) : Int), .bool x.e.fin, .bool x.e.hrd], Hp.own FN 1 pm.v pm.p.lst, Hp.map Try.prog 3 natL vB pm.mb pm.ks, Hp.rec_ pm.b [.int .i64 ((pm.p.n : Nat) : Int), .map (some pm.mb), pm.v], Hp.rec_ b20 [.int .i64 ((kf / 8 : Nat) : Int), .int .i64 ((kf % 8 : Nat) : Int)], Hp.rec_ S [pv, .int .i64 ((s.many : Nat) : Int)], Hp.own FP 1 pv (pms.map Pm.b), Hp.rec_ b1 [.int .i64 kind, .int .i64 ((ww : Nat) : Int), .int .i64 ((mm : Nat) : Int)], R, R21, R24]) rfl ?_
                      refine Gx.region ?_
                      refine Gx.val rfl rfl rfl (val_move rfl rfl) ?_
                      refine Gx.val rfl rfl rfl (Val.cast (val_not rfl rfl) (v' := .bool false) rfl) ?_
                      refine Gx.val rfl rfl rfl (val_move rfl rfl) ?_
                      refine Gx.valg rfl rfl rfl rfl rfl (val_move rfl rfl) ?_
                      refine Gx.valg rfl rfl rfl rfl rfl (val_nilCheck rfl rfl) ?_
                      refine Gx.valg rfl rfl rfl rfl rfl (Val.cast (val_fieldAddr rfl Try.underlying55 rfl Try.ty4 rfl rfl) (v' := ptr x.b 2) rfl) ?_
                      refine Gx.valg rfl rfl rfl rfl rfl (val_load rfl Try.ty4 rfl rfl (cell_rec (k := 0) rfl rfl)) ?_
                      refine Gx.val rfl rfl rfl (val_pickF rfl rfl rfl) ?_
                      refine Gx.done ?_
                      refine Gx.thenN ?_
                      refine Gx.bool rfl (fun h27 => ?_) (fun h27 => ?_)
                      · refine Gx.seq ?_
                        refine Gx.region ?_
                        refine Gx.val rfl rfl rfl (val_assign rfl rfl) ?_
                        refine Gx.done ?_
                        refine Gx.thenN ?_
                        refine Gx.ret ?_
                        refine Gx.thenR ?_
                        refine Gx.front 10 rfl ?_
                        refine Gx.front 1 rfl ?_
                        refine Gx.sepEq (l' := [Hp.big entH pm.ks, Hp.own FN 1 pm.v pm.p.lst, Hp.map Try.prog 3 natL vB pm.mb pm.ks, Hp.rec_ pm.b [.int .i64 ((pm.p.n : Nat) : Int), .map (some pm.mb), pm.v], Hp.rec_ b20 [.int .i64 ((kf / 8 : Nat) : Int), .int .i64 ((kf % 8 : Nat) : Int)], Hp.rec_ S [pv, .int .i64 ((s.many : Nat) : Int)], Hp.own FP 1 pv (pms.map Pm.b), Hp.rec_ b1 [.int .i64 kind, .int .i64 ((ww : Nat) : Int), .int .i64 ((mm : Nat) : Int)], R, R21]) (by show Hp.rec_ x.b [.int .i64 ((x.e.k / 8 : Nat) : Int), .int .i64 ((x.e.k % 8 : Nat) : Int), .bool x.e.fin, .bool x.e.hrd] * (R24 * _) = Hp.big entH pm.ks * _; rw [hf25]; show _ = (Hp.rec_ x.b [.int .i64 ((x.e.k / 8 : Nat) : Int), .int .i64 ((x.e.k % 8 : Nat) : Int), .bool x.e.fin, .bool x.e.hrd] * R24) * _; simp only [Hp.mul_assoc] <;> rfl) ?_
                        refine Gx.front 9 rfl ?_
                        refine Gx.front 2 rfl ?_
                        refine Gx.front 2 rfl ?_
                        refine Gx.front 3 rfl ?_
                        refine Gx.front 4 rfl ?_
                        refine Gx.sepEq (l' := [Hp.big procH pms, Hp.rec_ b20 [.int .i64 ((kf / 8 : Nat) : Int), .int .i64 ((kf % 8 : Nat) : Int)], Hp.rec_ S [pv, .int .i64 ((s.many : Nat) : Int)], Hp.own FP 1 pv (pms.map Pm.b), Hp.rec_ b1 [.int .i64 kind, .int .i64 ((ww : Nat) : Int), .int .i64 ((mm : Nat) : Int)], R]) (by show Hp.rec_ pm.b [.int .i64 ((pm.p.n : Nat) : Int), .map (some pm.mb), pm.v] * (Hp.map Try.prog 3 natL vB pm.mb pm.ks * (Hp.big entH pm.ks * (Hp.own FN 1 pm.v pm.p.lst * (R21 * _)))) = Hp.big procH pms * _; rw [hf22]; show _ = (Hp.rec_ pm.b [.int .i64 ((pm.p.n : Nat) : Int), .map (some pm.mb), pm.v] * (Hp.map Try.prog 3 natL vB pm.mb pm.ks * (Hp.big entH pm.ks * Hp.own FN 1 pm.v pm.p.lst)) * R21) * _; simp only [Hp.mul_assoc] <;> rfl) ?_
                        refine Gx.drop 4 rfl ?_
                        refine Gx.drop 1 rfl ?_
                        refine Gx.front 3 rfl ?_
                        refine Gx.front 1 rfl ?_
                        refine Gx.front 3 rfl ?_
                        refine Gx.front 3 rfl ?_
                        refine Gx.sat (l' := [worldH S (L + 1) s, R]) (fun w H => worldH.shut (s := s) (hok.same (Nat.le_succ L)) H) ?_
                        refine Gx.ret1 Try.results14 rfl ?_
                        refine ⟨?_, ?_⟩
                        · unfold stepT; rw [if_neg (by dsimp only; omega), if_neg (by unfold isN; rw [decide_eq_true (by dsimp only; omega)]; exact Bool.noConfusion)]; rw [if_neg (by dsimp only; omega), if_neg (by unfold isN; rw [decide_eq_true (by dsimp only; omega)]; exact Bool.noConfusion)]; dsimp only [Int.toNat_natCast]; rw [hrow]; dsimp only; rw [if_neg (by omega), hfi]; dsimp only; rw [hgt]; dsimp only; rw [if_pos (by assumption)]
                        · rw [sep1]; unfold stepT; rw [if_neg (by dsimp only; omega), if_neg (by unfold isN; rw [decide_eq_true (by dsimp only; omega)]; exact Bool.noConfusion)]; rw [if_neg (by dsimp only; omega), if_neg (by unfold isN; rw [decide_eq_true (by dsimp only; omega)]; exact Bool.noConfusion)]; dsimp only [Int.toNat_natCast]; rw [hrow]; dsimp only; rw [if_neg (by omega), hfi]; dsimp only; rw [hgt]; dsimp only; rw [if_pos (by assumption)]
                      · refine Gx.skip ?_
                        refine Gx.thenN ?_
                        refine Gx.seq ?_
                        refine Gx.region ?_
                        refine Gx.val rfl rfl rfl (val_move rfl rfl) ?_
                        refine Gx.val rfl rfl rfl (val_move rfl rfl) ?_
                        refine Gx.val rfl rfl rfl (Val.cast (val_loadA rfl Try.ty53 rfl rfl rfl (cells_rec (k := 4) rfl)) (v' := .agg #[.int .i64 ((kf / 8 : Nat) : Int), .int .i64 ((kf % 8 : Nat) : Int)]) rfl) ?_
                        refine Gx.val rfl rfl rfl (val_nilCheck rfl rfl) ?_
                        refine Gx.val rfl rfl rfl (Val.cast (val_fieldAddr rfl Try.underlying55 rfl Try.ty53 rfl rfl) (v' := ptr x.b 0) rfl) ?_
                        refine Gx.eff0 rfl rfl (eff_store rfl Try.ty53 rfl rfl (us := [.int .i64 ((kf / 8 : Nat) : Int), .int .i64 ((kf % 8 : Nat) : Int)]) rfl rfl rfl (k := 0) rfl (rfl) (vs' := [.int .i64 ((kf / 8 : Nat) : Int), .int .i64 ((kf % 8 : Nat) : Int), .bool x.e.fin, .bool x.e.hrd]) (rfl) (l' := [Hp.rec_ x.b [.int .i64 ((kf / 8 : Nat) : Int), .int .i64 ((kf % 8 : Nat) : Int), .bool x.e.fin, .bool x.e.hrd], Hp.own FN 1 pm.v pm.p.lst, Hp.map Try.prog 3 natL vB pm.mb pm.ks, Hp.rec_ pm.b [.int .i64 ((pm.p.n : Nat) : Int), .map (some pm.mb), pm.v], Hp.rec_ b20 [.int .i64 ((kf / 8 : Nat) : Int), .int .i64 ((kf % 8 : Nat) : Int)], Hp.rec_ S [pv, .int .i64 ((s.many : Nat) : Int)], Hp.own FP 1 pv (pms.map Pm.b), Hp.rec_ b1 [.int .i64 kind, .int .i64 ((ww : Nat) : Int), .int .i64 ((mm : Nat) : Int)], R, R21, R24]) rfl) ?_
                        rintro _ _ rfl
                        refine Gx.val rfl rfl rfl (val_nilCheck rfl rfl) ?_
                        refine Gx.val rfl rfl rfl (Val.cast (val_fieldAddr rfl Try.underlying55 rfl Try.ty4 rfl rfl) (v' := ptr x.b 2) rfl) ?_
                        refine Gx.eff0 rfl rfl (eff_store rfl Try.ty4 rfl rfl (us := [.bool true]) rfl rfl rfl (k := 0) rfl (rfl) (vs' := [.int .i64 ((kf / 8 : Nat) : Int), .int .i64 ((kf % 8 : Nat) : Int), .bool true, .bool x.e.hrd]) (rfl) (l' := [Hp.rec_ x.b [.int .i64 ((kf / 8 : Nat) : Int), .int .i64 ((kf % 8 : Nat) : Int), .bool true, .bool x.e.hrd], Hp.own FN 1 pm.v pm.p.lst, Hp.map Try.prog 3 natL vB pm.mb pm.ks, Hp.rec_ pm.b [.int .i64 ((pm.p.n : Nat) : Int), .map (some pm.mb), pm.v], Hp.rec_ b20 [.int .i64 ((kf / 8 : Nat) : Int), .int .i64 ((kf % 8 : Nat) : Int)], Hp.rec_ S [pv, .int .i64 ((s.many : Nat) : Int)], Hp.own FP 1 pv (pms.map Pm.b), Hp.rec_ b1 [.int .i64 kind, .int .i64 ((ww : Nat) : Int), .int .i64 ((mm : Nat) : Int)], R, R21, R24]) rfl) ?_
                        rintro _ _ rfl
                        refine Gx.done ?_
                        refine Gx.thenN ?_
                        refine Gx.seq ?_
                        refine Gx.regionO (fun j => false) 10 [0, 1, 2, 3, 4, 5, 6, 7, 8, 9] (fun _ => [Hp.rec_ x.b [.int .i64 ((kf / 8 : Nat) : Int), .int .i64 ((kf % 8 : Nat) : Int), .bool true, .bool x.e.hrd], Hp.own FN 1 pm.v pm.p.lst, Hp.map Try.prog 3 natL vB pm.mb pm.ks, Hp.rec_ pm.b [.int .i64 ((pm.p.n : Nat) : Int), .map (some pm.mb), pm.v], Hp.rec_ b20 [.int .i64 ((kf / 8 : Nat) : Int), .int .i64 ((kf % 8 : Nat) : Int)], Hp.rec_ S [pv, .int .i64 ((s.many : Nat) : Int)], Hp.own FP 1 pv (pms.map Pm.b), Hp.rec_ b1 [.int .i64 kind, .int .i64 ((ww : Nat) : Int), .int .i64 ((mm : Nat) : Int)], R, R21, R24]) Try.mixed (by kernel_rfl) rfl ?_
                        refine Gw.val rfl rfl rfl rfl rfl (fun us => val_move rfl rfl) ?_
                        refine Gw.val rfl rfl rfl rfl rfl (fun us => val_move rfl rfl) ?_
                        refine Gw.val rfl rfl rfl rfl rfl (fun us => val_nilCheck rfl rfl) ?_
                        refine Gw.val rfl rfl rfl rfl rfl (fun us => Val.cast (val_fieldAddr rfl Try.underlying47 rfl Try.ty3 rfl rfl) (v' := ptr pm.b 0) rfl) ?_
                        refine Gw.val0 rfl rfl rfl (by kernel_rfl) rfl rfl (val_load rfl Try.ty3 rfl rfl (cell_rec (k := 3) rfl rfl)) ?_
                        refine Gw.val rfl rfl rfl rfl rfl (fun us => Val.cast (val_fieldAddr rfl Try.underlying53 rfl Try.ty3 rfl rfl) (v' := ptr b20 0) rfl) ?_
                        refine Gw.val0 rfl rfl rfl (by kernel_rfl) rfl rfl (val_load rfl Try.ty3 rfl rfl (cell_rec (k := 4) rfl rfl)) ?_
                        refine Gw.val rfl rfl rfl rfl rfl (fun us => val_max rfl rfl rfl (r := ((max pm.p.n (kf / 8) : Nat) : Int)) (by split <;> omega)) ?_
                        refine Gw.val rfl rfl rfl rfl rfl (fun us => val_nilCheck rfl rfl) ?_
                        refine Gw.val rfl rfl rfl rfl rfl (fun us => Val.cast (val_fieldAddr rfl Try.underlying47 rfl Try.ty3 rfl rfl) (v' := ptr pm.b 0) rfl) ?_
                        refine Gw.done ?_
                        refine Gx.norm (l' := [Hp.rec_ x.b [.int .i64 ((kf / 8 : Nat) : Int), .int .i64 ((kf % 8 : Nat) : Int), .bool true, .bool x.e.hrd], Hp.own FN 1 pm.v pm.p.lst, Hp.map Try.prog 3 natL vB pm.mb pm.ks, Hp.rec_ pm.b [.int .i64 ((pm.p.n : Nat) : Int), .map (some pm.mb), pm.v], Hp.rec_ b20 [.int .i64 ((kf / 8 : Nat) : Int), .int .i64 ((kf % 8 : Nat) : Int)], Hp.rec_ S [pv, .int .i64 ((s.many : Nat) : Int)], Hp.own FP 1 pv (pms.map Pm.b), Hp.rec_ b1 [.int .i64 kind, .int .i64 ((ww : Nat) : Int), .int .i64 ((mm : Nat) : Int)], R, R21, R24]) rfl ?_
                        refine Gx.eff0 rfl rfl (eff_store rfl Try.ty3 rfl rfl (us := [.int .i64 ((max pm.p.n (kf / 8) : Nat) : Int)]) rfl rfl rfl (k := 3) rfl (rfl) (vs' := [.int .i64 ((max pm.p.n (kf / 8) : Nat) : Int), .map (some pm.mb), pm.v]) (rfl) (l' := [Hp.rec_ x.b [.int .i64 ((kf / 8 : Nat) : Int), .int .i64 ((kf % 8 : Nat) : Int), .bool true, .bool x.e.hrd], Hp.own FN 1 pm.v pm.p.lst, Hp.map Try.prog 3 natL vB pm.mb pm.ks, Hp.rec_ pm.b [.int .i64 ((max pm.p.n (kf / 8) : Nat) : Int), .map (some pm.mb), pm.v], Hp.rec_ b20 [.int .i64 ((kf / 8 : Nat) : Int), .int .i64 ((kf % 8 : Nat) : Int)], Hp.rec_ S [pv, .int .i64 ((s.many : Nat) : Int)], Hp.own FP 1 pv (pms.map Pm.b), Hp.rec_ b1 [.int .i64 kind, .int .i64 ((ww : Nat) : Int), .int .i64 ((mm : Nat) : Int)], R, R21, R24]) rfl) ?_
                        rintro _ _ rfl
                        refine Gx.done ?_
                        refine Gx.thenN ?_
                        refine Gx.seq ?_
                        refine Gx.front 10 rfl ?_
                        refine Gx.front 1 rfl ?_
                        refine Gx.sepEq (l' := [Hp.big entH (pm.ks.set kk (mm, ⟨x.b, ⟨kf, true, x.e.hrd⟩⟩)), Hp.own FN 1 pm.v pm.p.lst, Hp.map Try.prog 3 natL vB pm.mb pm.ks, Hp.rec_ pm.b [.int .i64 ((max pm.p.n (kf / 8) : Nat) : Int), .map (some pm.mb), pm.v], Hp.rec_ b20 [.int .i64 ((kf / 8 : Nat) : Int), .int .i64 ((kf % 8 : Nat) : Int)], Hp.rec_ S [pv, .int .i64 ((s.many : Nat) : Int)], Hp.own FP 1 pv (pms.map Pm.b), Hp.rec_ b1 [.int .i64 kind, .int .i64 ((ww : Nat) : Int), .int .i64 ((mm : Nat) : Int)], R, R21]) (by show Hp.rec_ x.b [.int .i64 ((kf / 8 : Nat) : Int), .int .i64 ((kf % 8 : Nat) : Int), .bool true, .bool x.e.hrd] * (R24 * _) = Hp.big entH (pm.ks.set kk (mm, ⟨x.b, ⟨kf, true, x.e.hrd⟩⟩)) * _; rw [(hg26 (mm, ⟨x.b, ⟨kf, true, x.e.hrd⟩⟩))]; show _ = (Hp.rec_ x.b [.int .i64 ((kf / 8 : Nat) : Int), .int .i64 ((kf % 8 : Nat) : Int), .bool true, .bool x.e.hrd] * R24) * _; simp only [Hp.mul_assoc] <;> rfl) ?_
                        refine Gx.norm (l' := [Hp.big entH (pm.ks.set kk (mm, ⟨x.b, ⟨kf, true, x.e.hrd⟩⟩)), Hp.own FN 1 pm.v pm.p.lst, Hp.map Try.prog 3 natL vB pm.mb (pm.ks.set kk (mm, ⟨x.b, ⟨kf, true, x.e.hrd⟩⟩)), Hp.rec_ pm.b [.int .i64 ((max pm.p.n (kf / 8) : Nat) : Int), .map (some pm.mb), pm.v], Hp.rec_ b20 [.int .i64 ((kf / 8 : Nat) : Int), .int .i64 ((kf % 8 : Nat) : Int)], Hp.rec_ S [pv, .int .i64 ((s.many : Nat) : Int)], Hp.own FP 1 pv (pms.map Pm.b), Hp.rec_ b1 [.int .i64 kind, .int .i64 ((ww : Nat) : Int), .int .i64 ((mm : Nat) : Int)], R, R21]) (by rw [show Hp.map Try.prog 3 natL vB pm.mb (pm.ks.set kk (mm, ⟨x.b, ⟨kf, true, x.e.hrd⟩⟩)) = Hp.map Try.prog 3 natL vB pm.mb pm.ks from mapB_set hkk rfl] <;> rfl) ?_
                        refine Gx.front 1 rfl ?_
                        refine Gx.front 1 rfl ?_
                        refine Gx.front 2 rfl ?_
                        refine Gx.front 3 rfl ?_
                        refine Gx.region ?_
                        refine Gx.val rfl rfl rfl (val_move rfl rfl) ?_
                        refine Gx.eff rfl rfl rfl (eff_call (vs := [ptr pm.b 0]) rfl Try.fn17 rfl (fun w H => settle_c (p := ⟨max pm.p.n (kf / 8), upG pm.p.got mm ⟨kf, true, x.e.hrd⟩, pm.p.lst⟩) (hpok.put (y := ⟨x.b, ⟨kf, true, x.e.hrd⟩⟩) hkk) (hdk pm.p x.e kf hrow hgt hfi) (by omega) hbd2.2 H)) ?_
                        rintro _ l28 ⟨q, ks2, cv, hstl, hK2, rfl, hl28⟩
                        refine Gx.sepEq (l' := [Hp.rec_ pm.b [.int .i64 ((q.n : Nat) : Int), .map (some pm.mb), cv], Hp.map Try.prog 3 natL vB pm.mb ks2, Hp.big entH ks2, Hp.own FN 1 cv q.lst, Hp.rec_ b20 [.int .i64 ((kf / 8 : Nat) : Int), .int .i64 ((kf % 8 : Nat) : Int)], Hp.rec_ S [pv, .int .i64 ((s.many : Nat) : Int)], Hp.own FP 1 pv (pms.map Pm.b), Hp.rec_ b1 [.int .i64 kind, .int .i64 ((ww : Nat) : Int), .int .i64 ((mm : Nat) : Int)], R, R21]) hl28 ?_
                        refine Gx.done ?_
                        refine Gx.thenN ?_
                        refine Gx.seq ?_
                        refine Gx.region ?_
                        refine Gx.val rfl rfl rfl (val_assign rfl rfl) ?_
                        refine Gx.done ?_
                        refine Gx.thenN ?_
                        refine Gx.ret ?_
                        refine Gx.front 9 rfl ?_
                        refine Gx.front 4 rfl ?_
                        refine Gx.front 4 rfl ?_
                        refine Gx.front 4 rfl ?_
                        refine Gx.front 4 rfl ?_
                        refine Gx.sepEq (l' := [Hp.big procH (pms.set ww (⟨pm.b, pm.mb, cv, ks2, q⟩ : Pm)), Hp.rec_ b20 [.int .i64 ((kf / 8 : Nat) : Int), .int .i64 ((kf % 8 : Nat) : Int)], Hp.rec_ S [pv, .int .i64 ((s.many : Nat) : Int)], Hp.own FP 1 pv (pms.map Pm.b), Hp.rec_ b1 [.int .i64 kind, .int .i64 ((ww : Nat) : Int), .int .i64 ((mm : Nat) : Int)], R]) (by show Hp.rec_ pm.b [.int .i64 ((q.n : Nat) : Int), .map (some pm.mb), cv] * (Hp.map Try.prog 3 natL vB pm.mb ks2 * (Hp.big entH ks2 * (Hp.own FN 1 cv q.lst * (R21 * _)))) = Hp.big procH (pms.set ww (⟨pm.b, pm.mb, cv, ks2, q⟩ : Pm)) * _; rw [(hg23 (⟨pm.b, pm.mb, cv, ks2, q⟩ : Pm))]; show _ = (Hp.rec_ pm.b [.int .i64 ((q.n : Nat) : Int), .map (some pm.mb), cv] * (Hp.map Try.prog 3 natL vB pm.mb ks2 * (Hp.big entH ks2 * Hp.own FN 1 cv q.lst)) * R21) * _; simp only [Hp.mul_assoc] <;> rfl) ?_
                        refine Gx.drop 4 rfl ?_
                        refine Gx.drop 1 rfl ?_
                        refine Gx.front 3 rfl ?_
                        refine Gx.front 1 rfl ?_
                        refine Gx.front 3 rfl ?_
                        refine Gx.front 3 rfl ?_
                        refine Gx.norm (l' := [Hp.rec_ S [pv, .int .i64 ((s.many : Nat) : Int)], Hp.own FP 1 pv ((pms.set ww (⟨pm.b, pm.mb, cv, ks2, q⟩ : Pm)).map Pm.b), Hp.big procH (pms.set ww (⟨pm.b, pm.mb, cv, ks2, q⟩ : Pm)), R]) (by rw [show ((pms.set ww (⟨pm.b, pm.mb, cv, ks2, q⟩ : Pm)).map Pm.b) = pms.map Pm.b from set_bM hpm rfl] <;> rfl) ?_
                        refine Gx.sat (l' := [worldH S (L + 1) (⟨s.ps.set ww q, s.many⟩ : TS), R]) (fun w H => worldH.shut (s := (⟨s.ps.set ww q, s.many⟩ : TS)) (hok.set (y := (⟨pm.b, pm.mb, cv, ks2, q⟩ : Pm)) hpm (Nat.le_succ L) (KOk.mono hK2 (Nat.le_succ L))) H) ?_
                        refine Gx.ret1 Try.results14 rfl ?_
                        refine ⟨?_, ?_⟩
                        · unfold stepT; rw [if_neg (by dsimp only; omega), if_neg (by unfold isN; rw [decide_eq_true (by dsimp only; omega)]; exact Bool.noConfusion)]; rw [if_neg (by dsimp only; omega), if_neg (by unfold isN; rw [decide_eq_true (by dsimp only; omega)]; exact Bool.noConfusion)]; dsimp only [Int.toNat_natCast]; rw [hrow]; dsimp only; rw [if_neg (by omega), hfi]; dsimp only; rw [hgt]; dsimp only; rw [if_neg (by simp_all), settle_of hstl]
                        · rw [sep1]; unfold stepT; rw [if_neg (by dsimp only; omega), if_neg (by unfold isN; rw [decide_eq_true (by dsimp only; omega)]; exact Bool.noConfusion)]; rw [if_neg (by dsimp only; omega), if_neg (by unfold isN; rw [decide_eq_true (by dsimp only; omega)]; exact Bool.noConfusion)]; dsimp only [Int.toNat_natCast]; rw [hrow]; dsimp only; rw [if_neg (by omega), hfi]; dsimp only; rw [hgt]; dsimp only; rw [if_neg (by simp_all), settle_of hstl]

end Go.Proofs.Ytfpdbgalannalaa
