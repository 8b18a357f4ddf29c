/- The greatest key of a message. The walk. No condition. -/
import Derived.Test.YtfpdbgalannalaaA1
namespace Go.Proofs.Ytfpdbgalannalaa
open Go.RowKit
set_option linter.unusedVariables false
set_option linter.unusedSimpArgs false
set_option maxRecDepth 100000

theorem cmpI_pos {a b : Nat} : 0 < cmpI (a : Int) (b : Int) ↔ b < a := by unfold cmpI; (repeat' split) <;> omega
theorem cmpI_neg {a b : Nat} : cmpI (a : Int) (b : Int) < 0 ↔ a < b := by unfold cmpI; (repeat' split) <;> omega
theorem fin_step {l : List Pt} {j m b : Nat} {p : Pt} {e : Ent} (h : l[j]? = some p) (hg : p.got m = some e) : finalT (l.drop j) m b = finalT (l.drop (j + 1)) m (max b e.k) := by
  obtain ⟨hl, rfl⟩ := List.getElem?_eq_some_iff.1 h
  rw [List.drop_eq_getElem_cons hl]
  show (match (l[j]).got m with | none => none | some e => finalT (l.drop (j + 1)) m (max b e.k)) = _
  rw [hg]
theorem fin_none {l : List Pt} {j m b : Nat} {p : Pt} (h : l[j]? = some p) (hg : p.got m = none) : finalT (l.drop j) m b = none := by
  obtain ⟨hl, rfl⟩ := List.getElem?_eq_some_iff.1 h
  rw [List.drop_eq_getElem_cons hl]
  show (match (l[j]).got m with | none => none | some e => finalT (l.drop (j + 1)) m (max b e.k)) = _
  rw [hg]
theorem fin_end {l : List Pt} {j m b : Nat} (h : l.length ≤ j) : finalT (l.drop j) m b = some b := by rw [List.drop_eq_nil_of_le h]; rfl
def finV : Option Nat → Value
  | none => .tuple #[.agg #[.int .i64 0, .int .i64 0], .bool false]
  | some k => .tuple #[.agg #[.int .i64 ((k / 8 : Nat) : Int), .int .i64 ((k % 8 : Nat) : Int)], .bool true]
theorem WOk.row {L j : Nat} {pms : List Pm} {s : TS} {m : Pm} (h : WOk L pms s) (hm : pms[j]? = some m) : s.ps[j]? = some m.p ∧ POk L m := by
  refine ⟨?_, h.ok m (List.mem_of_getElem? hm)⟩
  rw [← h.ps, List.getElem?_map, hm]; rfl
theorem final_any {W w : World} {S L mm : Nat} {s : TS} {pv : Value} {pms : List Pm} {R : Hp} (hok : WOk L pms s) (hmm : mm < 4611686018427387904) (hl : pms.length ≤ 6) (H : Sat W w (sep [Hp.rec_ S [pv, .int .i64 ((s.many : Nat) : Int)], Hp.own FP 1 pv (pms.map Pm.b), Hp.big procH pms, R])) :
    Calls Try.prog 16 #[ptr S 0, .int .i64 ((mm : Nat) : Int)] w (Ret W fun v l => v = finV (finalT s.ps mm 0) ∧ sep l = sep [Hp.rec_ S [pv, .int .i64 ((s.many : Nat) : Int)], Hp.own FP 1 pv (pms.map Pm.b), Hp.big procH pms, R]) := by
  refine Gx.enter (l := [Hp.rec_ S [pv, .int .i64 ((s.many : Nat) : Int)], Hp.own FP 1 pv (pms.map Pm.b), Hp.big procH pms, R]) Try.func16 rfl Try.ntmps16 rfl (H) ?_
  refine Gx.know (m' := [(0, ptr S 0), (1, .int .i64 ((mm : Nat) : Int))]) (.cons rfl (.cons rfl .nil)) ?_
  refine Gx.seq ?_
  refine Gx.region ?_
  refine Gx.eff rfl rfl rfl (eff_alloc rfl Try.ty53 (vs := [.int .i64 0, .int .i64 0]) rfl) ?_
  rintro _ _ ⟨b1, rfl, rfl⟩
  refine Gx.val rfl rfl rfl (val_assign rfl rfl) ?_
  refine Gx.done ?_
  refine Gx.thenN ?_
  refine Gx.seq ?_
  refine Gx.region ?_
  refine Gx.eff rfl rfl rfl (eff_alloc rfl Try.ty53 (vs := [.int .i64 0, .int .i64 0]) rfl) ?_
  rintro _ _ ⟨b2, rfl, rfl⟩
  refine Gx.done ?_
  refine Gx.thenN ?_
  refine Gx.seq ?_
  refine Gx.seq ?_
  refine Gx.region ?_
  refine Gx.val rfl rfl rfl (val_move rfl rfl) ?_
  refine Gx.val rfl rfl rfl (val_nilCheck rfl rfl) ?_
  refine Gx.val rfl rfl rfl (Val.cast (val_fieldAddr rfl Try.underlying43 rfl Try.ty41 rfl rfl) (v' := ptr S 0) rfl) ?_
  refine Gx.val rfl rfl rfl (val_load rfl Try.ty41 rfl rfl (cell_rec (k := 2) rfl rfl)) ?_
  refine Gx.val rfl rfl rfl (val_len rfl Try.underlying41 rfl (len_own (k := 3) rfl)) ?_
  refine Gx.val rfl rfl rfl (val_move rfl rfl) ?_
  refine Gx.done ?_
  refine Gx.thenN ?_
  refine Gx.block ?_
  refine Gx.loop (ι := Nat × Nat) (fun ξ => (ξ.1 ≤ pms.length) ∧ (finalT (s.ps.drop ξ.1) mm ξ.2 = finalT s.ps mm 0)) (fun ξ => [(0, ptr S 0), (1, .int .i64 ((mm : Nat) : Int)), (4, ptr b1 0), (5, .bool false), (6, ptr b2 0), (14, pv), (15, .int .i64 (((pms.map Pm.b).length : Nat) : Int)), (16, .int .i64 ((ξ.1 : Nat) : Int))]) (fun ξ => [Hp.rec_ b2 [.int .i64 ((ξ.2 / 8 : Nat) : Int), .int .i64 ((ξ.2 % 8 : Nat) : Int)], Hp.rec_ b1 [.int .i64 0, .int .i64 0], Hp.rec_ S [pv, .int .i64 ((s.many : Nat) : Int)], Hp.own FP 1 pv (pms.map Pm.b), Hp.big procH pms, R]) (fun ξ => pms.length - ξ.1) (0, 0) ⟨Nat.zero_le _, rfl⟩ ((.cons rfl (.cons rfl (.cons rfl (.cons rfl (.cons rfl (.cons rfl (.cons rfl (.cons rfl .nil))))))))) rfl ?_
  rintro ⟨j, bst⟩ ⟨hj, hb⟩
  dsimp only at hj hb
  refine Gx.know (m' := [(0, ptr S 0), (1, .int .i64 ((mm : Nat) : Int)), (4, ptr b1 0), (5, .bool false), (6, ptr b2 0), (14, pv), (15, .int .i64 (((pms.map Pm.b).length : Nat) : Int)), (16, .int .i64 ((j : Nat) : Int))]) (.cons rfl (.cons rfl (.cons rfl (.cons rfl (.cons rfl (.cons rfl (.cons rfl (.cons rfl .nil)))))))) (Gx.norm (l' := [Hp.rec_ b2 [.int .i64 ((bst / 8 : Nat) : Int), .int .i64 ((bst % 8 : Nat) : Int)], Hp.rec_ b1 [.int .i64 0, .int .i64 0], Hp.rec_ S [pv, .int .i64 ((s.many : Nat) : Int)], Hp.own FP 1 pv (pms.map Pm.b), Hp.big procH pms, R]) rfl ?_)
  refine Gx.seq ?_
  refine Gx.region ?_
  refine Gx.val rfl rfl rfl (val_lss rfl rfl rfl) ?_
  refine Gx.done ?_
  refine Gx.thenN ?_
  refine Gx.seq ?_
  refine Gx.dec rfl (fun h3 => ?_) (fun h3 => ?_)
  · refine Gx.skip ?_
    refine Gx.thenN ?_
    refine Gx.seq ?_
    refine Gx.block ?_
    refine Gx.seq ?_
    have hjl : j < pms.length := by simp only [List.length_map] at *; omega
    obtain ⟨pm, hpm⟩ := get_of_lt hjl
    obtain ⟨hrow, hpok⟩ := hok.row hpm
    obtain ⟨hjs, hjp⟩ := List.getElem?_eq_some_iff.1 hrow
    have hbm : (pms.map Pm.b)[j]? = some pm.b := by rw [List.getElem?_map, hpm]; rfl
    refine Gx.region ?_
    refine Gx.val rfl rfl rfl (val_ixa rfl Try.underlying41 Try.ty44 rfl rfl (j := j) (rfl) (reach_own (k := 3) rfl hbm)) ?_
    refine Gx.val rfl rfl rfl (val_load rfl Try.ty44 rfl rfl (cell_own (i := 0) (k := 3) rfl hbm rfl)) ?_
    refine Gx.val rfl rfl rfl (val_assign rfl rfl) ?_
    refine Gx.done ?_
    refine Gx.thenN ?_
    refine Gx.seq ?_
    refine Gx.focus (n := 4) (k := j) rfl hpm (fun R4 hf5 hg6 => ?_)
    refine Gx.norm (l' := [Hp.rec_ b2 [.int .i64 ((bst / 8 : Nat) : Int), .int .i64 ((bst % 8 : Nat) : Int)], Hp.rec_ b1 [.int .i64 0, .int .i64 0], Hp.rec_ S [pv, .int .i64 ((s.many : Nat) : Int)], Hp.own FP 1 pv (pms.map Pm.b), procH pm, R, R4]) rfl ?_
    refine Gx.cleave 4 (p := Hp.rec_ pm.b [.int .i64 ((pm.p.n : Nat) : Int), .map (some pm.mb), pm.v]) (q := Hp.map Try.prog 3 natL vB pm.mb pm.ks * (Hp.big entH pm.ks * Hp.own FN 1 pm.v pm.p.lst)) rfl rfl rfl ?_
    refine Gx.cleave 1 (p := Hp.map Try.prog 3 natL vB pm.mb pm.ks) (q := Hp.big entH pm.ks * Hp.own FN 1 pm.v pm.p.lst) rfl rfl rfl ?_
    refine Gx.cleave 1 (p := Hp.big entH pm.ks) (q := Hp.own FN 1 pm.v pm.p.lst) rfl rfl rfl ?_
    refine Gx.norm (l' := [Hp.big entH pm.ks, Hp.own FN 1 pm.v pm.p.lst, Hp.map Try.prog 3 natL vB pm.mb pm.ks, Hp.rec_ pm.b [.int .i64 ((pm.p.n : Nat) : Int), .map (some pm.mb), pm.v], Hp.rec_ b2 [.int .i64 ((bst / 8 : Nat) : Int), .int .i64 ((bst % 8 : Nat) : Int)], Hp.rec_ b1 [.int .i64 0, .int .i64 0], Hp.rec_ S [pv, .int .i64 ((s.many : Nat) : Int)], Hp.own FP 1 pv (pms.map Pm.b), R, R4]) rfl ?_
    rcases hgm : getM pm.ks mm with _ | x
    · have hgt : pm.p.got mm = none := by rw [hpok.eq, hgm]; rfl
      refine Gx.region ?_
      refine Gx.val rfl rfl rfl (val_move rfl rfl) ?_
      refine Gx.val rfl rfl rfl (val_nilCheck rfl rfl) ?_
      refine Gx.val rfl rfl rfl (Val.cast (val_fieldAddr rfl Try.underlying47 rfl Try.ty45 rfl rfl) (v' := ptr pm.b 1) rfl) ?_
      refine Gx.val rfl rfl rfl (val_load rfl Try.ty45 rfl rfl (cell_rec (k := 3) rfl rfl)) ?_
      refine Gx.val rfl rfl rfl (val_move rfl rfl) ?_
      refine Gx.val rfl rfl rfl (val_lookupN rfl Try.underlying45 Try.kN Try.ty50 rfl rfl (i := mm) (hmm) (k := 2) rfl (hgm)) ?_
      refine Gx.val rfl rfl rfl (val_move rfl rfl) ?_
      refine Gx.val rfl rfl rfl (val_extract rfl rfl rfl) ?_
      refine Gx.val rfl rfl rfl (val_extract rfl rfl rfl) ?_
      refine Gx.val rfl rfl rfl (val_assign rfl rfl) ?_
      refine Gx.val rfl rfl rfl (val_assign rfl rfl) ?_
      refine Gx.done ?_
      refine Gx.thenN ?_
      refine Gx.seq ?_
      refine Gx.seq ?_
      refine Gx.region ?_
      refine Gx.val rfl rfl rfl (val_move rfl rfl) ?_
      refine Gx.val rfl rfl rfl (Val.cast (val_not rfl rfl) (v' := .bool true) rfl) ?_
      refine Gx.done ?_
      refine Gx.thenN ?_
      refine Gx.t rfl ?_
      refine Gx.seq ?_
      refine Gx.region ?_
      refine Gx.val rfl rfl rfl (val_build rfl (qs := []) rfl rfl (fun w => by go_simp) (v := .agg #[.int .i64 0, .int .i64 0])) ?_
      refine Gx.eff0 rfl rfl (eff_store rfl Try.ty53 rfl rfl (us := [.int .i64 0, .int .i64 0]) rfl rfl rfl (k := 5) rfl (rfl) (vs' := [.int .i64 0, .int .i64 0]) (rfl) (l' := [Hp.big entH pm.ks, Hp.own FN 1 pm.v pm.p.lst, Hp.map Try.prog 3 natL vB pm.mb pm.ks, Hp.rec_ pm.b [.int .i64 ((pm.p.n : Nat) : Int), .map (some pm.mb), pm.v], Hp.rec_ b2 [.int .i64 ((bst / 8 : Nat) : Int), .int .i64 ((bst % 8 : Nat) : Int)], Hp.rec_ b1 [.int .i64 0, .int .i64 0], Hp.rec_ S [pv, .int .i64 ((s.many : Nat) : Int)], Hp.own FP 1 pv (pms.map Pm.b), R, R4]) rfl) ?_
      rintro _ _ rfl
      refine Gx.val rfl rfl rfl (val_assign rfl rfl) ?_
      refine Gx.done ?_
      refine Gx.thenN ?_
      refine Gx.ret ?_
      refine Gx.thenR ?_
      refine Gx.blkR ?_
      refine Gx.thenR ?_
      refine Gx.thenR ?_
      refine Gx.blkR ?_
      refine Gx.thenR ?_
      refine Gx.front 9 rfl ?_
      refine Gx.front 2 rfl ?_
      refine Gx.front 2 rfl ?_
      refine Gx.front 3 rfl ?_
      refine Gx.front 4 rfl ?_
      refine Gx.sepEq (l' := [Hp.big procH pms, Hp.rec_ b2 [.int .i64 ((bst / 8 : Nat) : Int), .int .i64 ((bst % 8 : Nat) : Int)], Hp.rec_ b1 [.int .i64 0, .int .i64 0], Hp.rec_ S [pv, .int .i64 ((s.many : Nat) : Int)], Hp.own FP 1 pv (pms.map Pm.b), R]) (by show Hp.rec_ pm.b [.int .i64 ((pm.p.n : Nat) : Int), .map (some pm.mb), pm.v] * (Hp.map Try.prog 3 natL vB pm.mb pm.ks * (Hp.big entH pm.ks * (Hp.own FN 1 pm.v pm.p.lst * (R4 * _)))) = Hp.big procH pms * _; rw [hf5]; show _ = (Hp.rec_ pm.b [.int .i64 ((pm.p.n : Nat) : Int), .map (some pm.mb), pm.v] * (Hp.map Try.prog 3 natL vB pm.mb pm.ks * (Hp.big entH pm.ks * Hp.own FN 1 pm.v pm.p.lst)) * R4) * _; simp only [Hp.mul_assoc] <;> rfl) ?_
      refine Gx.drop 1 rfl ?_
      refine Gx.front 4 rfl ?_
      refine Gx.front 1 rfl ?_
      refine Gx.front 4 rfl ?_
      refine Gx.front 4 rfl ?_
      refine Gx.front 4 rfl ?_
      refine Gx.retC2d Try.results16 Try.ty53 rfl rfl (us := [.int .i64 0, .int .i64 0]) rfl (k := 0) rfl rfl ?_
      exact ⟨by rw [show finalT s.ps mm 0 = none from (by rw [← hb]; exact (fin_none hrow hgt))] <;> rfl, rfl⟩
    · have hgt : pm.p.got mm = some x.e := by rw [hpok.eq, hgm]; rfl
      obtain ⟨kk, hkk, _⟩ := getM_index hgm
      refine Gx.region ?_
      refine Gx.val rfl rfl rfl (val_move rfl rfl) ?_
      refine Gx.val rfl rfl rfl (val_nilCheck rfl rfl) ?_
      refine Gx.val rfl rfl rfl (Val.cast (val_fieldAddr rfl Try.underlying47 rfl Try.ty45 rfl rfl) (v' := ptr pm.b 1) rfl) ?_
      refine Gx.val rfl rfl rfl (val_load rfl Try.ty45 rfl rfl (cell_rec (k := 3) rfl rfl)) ?_
      refine Gx.val rfl rfl rfl (val_move rfl rfl) ?_
      refine Gx.val rfl rfl rfl (val_lookupS rfl Try.underlying45 Try.kN Try.ty50 rfl rfl (i := mm) (hmm) (k := 2) rfl (hgm)) ?_
      refine Gx.val rfl rfl rfl (val_move rfl rfl) ?_
      refine Gx.val rfl rfl rfl (val_extract rfl rfl rfl) ?_
      refine Gx.val rfl rfl rfl (val_extract rfl rfl rfl) ?_
      refine Gx.val rfl rfl rfl (val_assign rfl rfl) ?_
      refine Gx.val rfl rfl rfl (val_assign rfl rfl) ?_
      refine Gx.done ?_
      refine Gx.thenN ?_
      refine Gx.seq ?_
      refine Gx.seq ?_
      refine Gx.region ?_
      refine Gx.val rfl rfl rfl (val_move rfl rfl) ?_
      refine Gx.val rfl rfl rfl (Val.cast (val_not rfl rfl) (v' := .bool false) rfl) ?_
      refine Gx.done ?_
      refine Gx.thenN ?_
      refine Gx.f rfl ?_
      refine Gx.skip ?_
      refine Gx.thenN ?_
      refine Gx.seq ?_
      refine Gx.focus (n := 0) (k := kk) rfl hkk (fun R7 hf8 hg9 => ?_)
      refine Gx.norm (l' := [entH (mm, x), Hp.own FN 1 pm.v pm.p.lst, Hp.map Try.prog 3 natL vB pm.mb pm.ks, Hp.rec_ pm.b [.int .i64 ((pm.p.n : Nat) : Int), .map (some pm.mb), pm.v], Hp.rec_ b2 [.int .i64 ((bst / 8 : Nat) : Int), .int .i64 ((bst % 8 : Nat) : Int)], Hp.rec_ b1 [.int .i64 0, .int .i64 0], Hp.rec_ S [pv, .int .i64 ((s.many : Nat) : Int)], Hp.own FP 1 pv (pms.map Pm.b), R, R4, R7]) rfl ?_
      refine Gx.norm (l' := [Hp.rec_ x.b [.int .i64 ((x.e.k / 8 : Nat) : Int), .int .i64 ((x.e.k % 8 : Nat) : Int), .bool x.e.fin, .bool x.e.hrd], Hp.own FN 1 pm.v pm.p.lst, Hp.map Try.prog 3 natL vB pm.mb pm.ks, Hp.rec_ pm.b [.int .i64 ((pm.p.n : Nat) : Int), .map (some pm.mb), pm.v], Hp.rec_ b2 [.int .i64 ((bst / 8 : Nat) : Int), .int .i64 ((bst % 8 : Nat) : Int)], Hp.rec_ b1 [.int .i64 0, .int .i64 0], Hp.rec_ S [pv, .int .i64 ((s.many : Nat) : Int)], Hp.own FP 1 pv (pms.map Pm.b), R, R4, R7]) rfl ?_
      refine Gx.regionQ Try.mixed (by kernel_rfl) ?_
      refine Gq.val rfl rfl rfl (val_move rfl rfl) ?_
      refine Gq.val rfl rfl rfl (val_nilCheck rfl rfl) ?_
      refine Gq.val rfl rfl rfl (Val.cast (val_fieldAddr rfl Try.underlying55 rfl Try.ty53 rfl rfl) (v' := ptr x.b 0) rfl) ?_
      refine Gq.val rfl rfl rfl (Val.cast (val_loadA rfl Try.ty53 rfl rfl (us := [.int .i64 ((x.e.k / 8 : Nat) : Int), .int .i64 ((x.e.k % 8 : Nat) : Int)]) rfl (cells_rec_at (k := 0) (i := 0) (n := 2) rfl rfl)) (v' := .agg #[.int .i64 ((x.e.k / 8 : Nat) : Int), .int .i64 ((x.e.k % 8 : Nat) : Int)]) rfl) ?_
      refine Gq.val rfl rfl rfl (Val.cast (val_loadA rfl Try.ty53 rfl rfl rfl (cells_rec (k := 4) rfl)) (v' := .agg #[.int .i64 ((bst / 8 : Nat) : Int), .int .i64 ((bst % 8 : Nat) : Int)]) rfl) ?_
      refine Gq.val rfl rfl rfl (val_call (vs := [.agg #[.int .i64 ((x.e.k / 8 : Nat) : Int), .int .i64 ((x.e.k % 8 : Nat) : Int)], .agg #[.int .i64 ((bst / 8 : Nat) : Int), .int .i64 ((bst % 8 : Nat) : Int)]]) rfl Try.fn18 rfl (fun w H => comp_any x.e.k bst)) ?_
      refine Gq.val rfl rfl rfl (val_gtr rfl rfl rfl) ?_
      refine Gq.done ?_
      refine Gx.thenN ?_
      refine Gx.dec rfl (fun h10 => ?_) (fun h10 => ?_)
      · refine Gx.region ?_
        refine Gx.val rfl rfl rfl (val_move rfl rfl) ?_
        refine Gx.val rfl rfl rfl (val_nilCheck rfl rfl) ?_
        refine Gx.val rfl rfl rfl (Val.cast (val_fieldAddr rfl Try.underlying55 rfl Try.ty53 rfl rfl) (v' := ptr x.b 0) rfl) ?_
        refine Gx.val rfl rfl rfl (Val.cast (val_loadA rfl Try.ty53 rfl rfl (us := [.int .i64 ((x.e.k / 8 : Nat) : Int), .int .i64 ((x.e.k % 8 : Nat) : Int)]) rfl (cells_rec_at (k := 0) (i := 0) (n := 2) rfl rfl)) (v' := .agg #[.int .i64 ((x.e.k / 8 : Nat) : Int), .int .i64 ((x.e.k % 8 : Nat) : Int)]) rfl) ?_
        refine Gx.eff0 rfl rfl (eff_store rfl Try.ty53 rfl rfl (us := [.int .i64 ((x.e.k / 8 : Nat) : Int), .int .i64 ((x.e.k % 8 : Nat) : Int)]) rfl rfl rfl (k := 4) rfl (rfl) (vs' := [.int .i64 ((x.e.k / 8 : Nat) : Int), .int .i64 ((x.e.k % 8 : Nat) : Int)]) (rfl) (l' := [Hp.rec_ x.b [.int .i64 ((x.e.k / 8 : Nat) : Int), .int .i64 ((x.e.k % 8 : Nat) : Int), .bool x.e.fin, .bool x.e.hrd], Hp.own FN 1 pm.v pm.p.lst, Hp.map Try.prog 3 natL vB pm.mb pm.ks, Hp.rec_ pm.b [.int .i64 ((pm.p.n : Nat) : Int), .map (some pm.mb), pm.v], Hp.rec_ b2 [.int .i64 ((x.e.k / 8 : Nat) : Int), .int .i64 ((x.e.k % 8 : Nat) : Int)], Hp.rec_ b1 [.int .i64 0, .int .i64 0], Hp.rec_ S [pv, .int .i64 ((s.many : Nat) : Int)], Hp.own FP 1 pv (pms.map Pm.b), R, R4, R7]) rfl) ?_
        rintro _ _ rfl
        refine Gx.done ?_
        refine Gx.blkN ?_
        refine Gx.thenN ?_
        refine Gx.region ?_
        refine Gx.val rfl rfl rfl (val_add rfl rfl rfl (r := ((j + 1 : Nat) : Int)) (w64 (by omega) (by omega))) ?_
        refine Gx.val rfl rfl rfl (val_move rfl rfl) ?_
        refine Gx.done ?_
        refine Gx.thenN ?_
        refine Gx.front 10 rfl ?_
        refine Gx.front 1 rfl ?_
        refine Gx.sepEq (l' := [Hp.big entH pm.ks, Hp.own FN 1 pm.v pm.p.lst, Hp.map Try.prog 3 natL vB pm.mb pm.ks, Hp.rec_ pm.b [.int .i64 ((pm.p.n : Nat) : Int), .map (some pm.mb), pm.v], Hp.rec_ b2 [.int .i64 ((x.e.k / 8 : Nat) : Int), .int .i64 ((x.e.k % 8 : Nat) : Int)], Hp.rec_ b1 [.int .i64 0, .int .i64 0], Hp.rec_ S [pv, .int .i64 ((s.many : Nat) : Int)], Hp.own FP 1 pv (pms.map Pm.b), R, R4]) (by show Hp.rec_ x.b [.int .i64 ((x.e.k / 8 : Nat) : Int), .int .i64 ((x.e.k % 8 : Nat) : Int), .bool x.e.fin, .bool x.e.hrd] * (R7 * _) = Hp.big entH pm.ks * _; rw [hf8]; show _ = (Hp.rec_ x.b [.int .i64 ((x.e.k / 8 : Nat) : Int), .int .i64 ((x.e.k % 8 : Nat) : Int), .bool x.e.fin, .bool x.e.hrd] * R7) * _; simp only [Hp.mul_assoc] <;> rfl) ?_
        refine Gx.front 9 rfl ?_
        refine Gx.front 2 rfl ?_
        refine Gx.front 2 rfl ?_
        refine Gx.front 3 rfl ?_
        refine Gx.front 4 rfl ?_
        refine Gx.sepEq (l' := [Hp.big procH pms, Hp.rec_ b2 [.int .i64 ((x.e.k / 8 : Nat) : Int), .int .i64 ((x.e.k % 8 : Nat) : Int)], Hp.rec_ b1 [.int .i64 0, .int .i64 0], Hp.rec_ S [pv, .int .i64 ((s.many : Nat) : Int)], Hp.own FP 1 pv (pms.map Pm.b), R]) (by show Hp.rec_ pm.b [.int .i64 ((pm.p.n : Nat) : Int), .map (some pm.mb), pm.v] * (Hp.map Try.prog 3 natL vB pm.mb pm.ks * (Hp.big entH pm.ks * (Hp.own FN 1 pm.v pm.p.lst * (R4 * _)))) = Hp.big procH pms * _; rw [hf5]; show _ = (Hp.rec_ pm.b [.int .i64 ((pm.p.n : Nat) : Int), .map (some pm.mb), pm.v] * (Hp.map Try.prog 3 natL vB pm.mb pm.ks * (Hp.big entH pm.ks * Hp.own FN 1 pm.v pm.p.lst)) * R4) * _; simp only [Hp.mul_assoc] <;> rfl) ?_
        refine Gx.front 5 rfl ?_
        refine Gx.front 1 rfl ?_
        refine Gx.front 5 rfl ?_
        refine Gx.front 5 rfl ?_
        refine Gx.front 5 rfl ?_
        refine Gx.front 5 rfl ?_
        exact Gx.round (j + 1, x.e.k) ⟨by omega, by rw [← hb, fin_step (List.getElem?_eq_some_iff.2 ⟨hjs, hjp⟩) hgt]; congr 1; have := cmpI_pos.1 h10; omega⟩ (by first | omega | (dsimp only; omega)) ((.cons rfl (.cons rfl (.cons rfl (.cons rfl (.cons rfl (.cons rfl (.cons rfl (.cons rfl .nil))))))))) rfl
      · refine Gx.skip ?_
        refine Gx.blkN ?_
        refine Gx.thenN ?_
        refine Gx.region ?_
        refine Gx.val rfl rfl rfl (val_add rfl rfl rfl (r := ((j + 1 : Nat) : Int)) (w64 (by omega) (by omega))) ?_
        refine Gx.val rfl rfl rfl (val_move rfl rfl) ?_
        refine Gx.done ?_
        refine Gx.thenN ?_
        refine Gx.front 10 rfl ?_
        refine Gx.front 1 rfl ?_
        refine Gx.sepEq (l' := [Hp.big entH pm.ks, Hp.own FN 1 pm.v pm.p.lst, Hp.map Try.prog 3 natL vB pm.mb pm.ks, Hp.rec_ pm.b [.int .i64 ((pm.p.n : Nat) : Int), .map (some pm.mb), pm.v], Hp.rec_ b2 [.int .i64 ((bst / 8 : Nat) : Int), .int .i64 ((bst % 8 : Nat) : Int)], Hp.rec_ b1 [.int .i64 0, .int .i64 0], Hp.rec_ S [pv, .int .i64 ((s.many : Nat) : Int)], Hp.own FP 1 pv (pms.map Pm.b), R, R4]) (by show Hp.rec_ x.b [.int .i64 ((x.e.k / 8 : Nat) : Int), .int .i64 ((x.e.k % 8 : Nat) : Int), .bool x.e.fin, .bool x.e.hrd] * (R7 * _) = Hp.big entH pm.ks * _; rw [hf8]; show _ = (Hp.rec_ x.b [.int .i64 ((x.e.k / 8 : Nat) : Int), .int .i64 ((x.e.k % 8 : Nat) : Int), .bool x.e.fin, .bool x.e.hrd] * R7) * _; simp only [Hp.mul_assoc] <;> rfl) ?_
        refine Gx.front 9 rfl ?_
        refine Gx.front 2 rfl ?_
        refine Gx.front 2 rfl ?_
        refine Gx.front 3 rfl ?_
        refine Gx.front 4 rfl ?_
        refine Gx.sepEq (l' := [Hp.big procH pms, Hp.rec_ b2 [.int .i64 ((bst / 8 : Nat) : Int), .int .i64 ((bst % 8 : Nat) : Int)], Hp.rec_ b1 [.int .i64 0, .int .i64 0], Hp.rec_ S [pv, .int .i64 ((s.many : Nat) : Int)], Hp.own FP 1 pv (pms.map Pm.b), R]) (by show Hp.rec_ pm.b [.int .i64 ((pm.p.n : Nat) : Int), .map (some pm.mb), pm.v] * (Hp.map Try.prog 3 natL vB pm.mb pm.ks * (Hp.big entH pm.ks * (Hp.own FN 1 pm.v pm.p.lst * (R4 * _)))) = Hp.big procH pms * _; rw [hf5]; show _ = (Hp.rec_ pm.b [.int .i64 ((pm.p.n : Nat) : Int), .map (some pm.mb), pm.v] * (Hp.map Try.prog 3 natL vB pm.mb pm.ks * (Hp.big entH pm.ks * Hp.own FN 1 pm.v pm.p.lst)) * R4) * _; simp only [Hp.mul_assoc] <;> rfl) ?_
        refine Gx.front 5 rfl ?_
        refine Gx.front 1 rfl ?_
        refine Gx.front 5 rfl ?_
        refine Gx.front 5 rfl ?_
        refine Gx.front 5 rfl ?_
        refine Gx.front 5 rfl ?_
        exact Gx.round (j + 1, bst) ⟨by omega, by rw [← hb, fin_step (List.getElem?_eq_some_iff.2 ⟨hjs, hjp⟩) hgt]; congr 1; have := mt cmpI_pos.2 h10; omega⟩ (by first | omega | (dsimp only; omega)) ((.cons rfl (.cons rfl (.cons rfl (.cons rfl (.cons rfl (.cons rfl (.cons rfl (.cons rfl .nil))))))))) rfl
  · refine Gx.exit ?_
    refine Gx.thenE ?_
    refine Gx.thenE ?_
    refine Gx.blkE ?_
    refine Gx.thenN ?_
    refine Gx.seq ?_
    refine Gx.region ?_
    refine Gx.val rfl rfl rfl (Val.cast (val_loadA rfl Try.ty53 rfl rfl rfl (cells_rec (k := 0) rfl)) (v' := .agg #[.int .i64 ((bst / 8 : Nat) : Int), .int .i64 ((bst % 8 : Nat) : Int)]) rfl) ?_
    refine Gx.eff0 rfl rfl (eff_store rfl Try.ty53 rfl rfl (us := [.int .i64 ((bst / 8 : Nat) : Int), .int .i64 ((bst % 8 : Nat) : Int)]) rfl rfl rfl (k := 1) rfl (rfl) (vs' := [.int .i64 ((bst / 8 : Nat) : Int), .int .i64 ((bst % 8 : Nat) : Int)]) (rfl) (l' := [Hp.rec_ b2 [.int .i64 ((bst / 8 : Nat) : Int), .int .i64 ((bst % 8 : Nat) : Int)], Hp.rec_ b1 [.int .i64 ((bst / 8 : Nat) : Int), .int .i64 ((bst % 8 : Nat) : Int)], Hp.rec_ S [pv, .int .i64 ((s.many : Nat) : Int)], Hp.own FP 1 pv (pms.map Pm.b), Hp.big procH pms, R]) rfl) ?_
    rintro _ _ rfl
    refine Gx.val rfl rfl rfl (val_assign rfl rfl) ?_
    refine Gx.done ?_
    refine Gx.thenN ?_
    refine Gx.ret ?_
    refine Gx.drop 0 rfl ?_
    refine Gx.front 4 rfl ?_
    refine Gx.front 4 rfl ?_
    refine Gx.front 4 rfl ?_
    refine Gx.front 4 rfl ?_
    refine Gx.front 4 rfl ?_
    refine Gx.retC2d Try.results16 Try.ty53 rfl rfl (us := [.int .i64 ((bst / 8 : Nat) : Int), .int .i64 ((bst % 8 : Nat) : Int)]) rfl (k := 0) rfl rfl ?_
    exact ⟨by rw [show finalT s.ps mm 0 = some bst from (by rw [← hb]; exact fin_end (by have := hok.ps; have := congrArg List.length this; simp only [List.length_map] at *; omega))] <;> rfl, rfl⟩

end Go.Proofs.Ytfpdbgalannalaa
