/- One asks; one leaves. The walks. No condition. -/
import Derived.Test.YtgfileonpoghmaaA2
namespace Go.Proofs.Ytgfileonpoghmaa
open Go.RowKit
set_option linter.unusedVariables false
set_option linter.unusedSimpArgs false
set_option maxRecDepth 100000

theorem wayH.mono {L mb : Nat} {q : Wy} : ∀ h, wayH L mb q h → wayH (L + 1) mb q h := fun h ⟨ms, h1, h2, hd, he, ⟨⟨g1, g2, g3⟩, g4⟩, hr⟩ => ⟨ms, h1, h2, hd, he, ⟨⟨g1, Nat.le_succ_of_le g2, Nat.le_succ_of_le g3⟩, g4⟩, hr⟩
theorem tellW_at (q : Wy) (i x k : Nat) : tellW q i x (k + 1) = if k = i then tellW q i x k else sendW (tellW q i x k) i k x := rfl
theorem yesW_snoc : ∀ (l : List Nat) (q : Wy) (i j : Nat), yesW q i (l ++ [j]) = sendW (yesW q i l) i j 0
  | [], _, _, _ => rfl
  | a :: l, q, i, j => yesW_snoc l _ i j
theorem ask_no {W w : World} {S L i : Nat} {s : MS} {p : Pq} {R : Hp} (hp : s.ps[i]? = some p) (hn : s.ps.length ≤ 6) (hi : s.ins.length ≤ 10000) (hpn : p.n ≤ 10000) (hpy : p.yes ≤ 10000) (hL : L ≤ 50000) (hw : p.how ≠ 0) (H : Sat W w (worldH S L s * R)) :
    Calls Try.prog 14 #[ptr S 0, .int .i64 ((i : Nat) : Int)] w (Ret W fun v l => v = .int .i64 6 ∧ sep l = worldH S L (askM s i).2 * R) := by
  have hi6 := (List.getElem?_eq_some_iff.1 hp).1
  obtain ⟨pv, mb, iv, pms, m, R0, hmap, hk, hmp, hb, H⟩ := worldH.openF hp H
  have hkb : (pms.map Pm.b)[i]? = some m.b := by rw [List.getElem?_map, hk]; rfl
  have hkl := (List.getElem?_eq_some_iff.1 hk).1
  have hbl : (pms.map Pm.b).length = s.ps.length := by rw [← hmap, List.length_map, List.length_map]
  subst hmp
  refine Gx.enter (l := [Hp.rec_ S [pv, .map (some mb), iv], Hp.own FP 1 pv (pms.map Pm.b), Hp.rec_ m.b [.int .i64 ((m.p.n : Nat) : Int), .int .i64 ((m.p.how : Nat) : Int), .int .i64 ((m.p.key : Nat) : Int), m.v, .int .i64 ((m.p.yes : Nat) : Int)], Hp.own FN 1 m.v m.p.waits, R0, wayH L mb s.q, Hp.own FN 1 iv s.ins, R]) Try.func14 rfl Try.ntmps14 rfl (H) ?_
  refine Gx.know (m' := [(0, ptr S 0), (1, .int .i64 ((i : Nat) : Int))]) (.cons rfl (.cons rfl .nil)) ?_
  refine Gx.seq ?_
  refine Gx.region ?_
  refine Gx.val rfl rfl rfl (val_assign rfl rfl) ?_
  refine Gx.done ?_
  refine Gx.thenN ?_
  refine Gx.seq ?_
  refine Gx.region ?_
  refine Gx.val rfl rfl rfl (val_move rfl rfl) ?_
  refine Gx.val rfl rfl rfl (val_nilCheck rfl rfl) ?_
  refine Gx.val rfl rfl rfl (Val.cast (val_fieldAddr rfl Try.underlying43 rfl Try.ty41 rfl rfl) (v' := ptr S 0) rfl) ?_
  refine Gx.val rfl rfl rfl (val_load rfl Try.ty41 rfl rfl (cell_rec (k := 0) rfl rfl)) ?_
  refine Gx.val rfl rfl rfl (val_move rfl rfl) ?_
  refine Gx.val rfl rfl rfl (val_ixa rfl Try.underlying41 Try.ty44 rfl rfl (j := i) (rfl) (reach_own (k := 1) rfl hkb)) ?_
  refine Gx.val rfl rfl rfl (val_load rfl Try.ty44 rfl rfl (cell_own (i := 0) (k := 1) rfl hkb rfl)) ?_
  refine Gx.val rfl rfl rfl (val_assign rfl rfl) ?_
  refine Gx.done ?_
  refine Gx.thenN ?_
  refine Gx.seq ?_
  refine Gx.seq ?_
  refine Gx.region ?_
  refine Gx.val rfl rfl rfl (val_move rfl rfl) ?_
  refine Gx.val rfl rfl rfl (val_nilCheck rfl rfl) ?_
  refine Gx.val rfl rfl rfl (Val.cast (val_fieldAddr rfl Try.underlying46 rfl Try.ty3 rfl rfl) (v' := ptr m.b 1) rfl) ?_
  refine Gx.val rfl rfl rfl (val_load rfl Try.ty3 rfl rfl (cell_rec (k := 2) rfl rfl)) ?_
  refine Gx.val rfl rfl rfl (val_neq rfl rfl rfl) ?_
  refine Gx.done ?_
  refine Gx.thenN ?_
  refine Gx.decT rfl (by omega) ?_
  refine Gx.seq ?_
  refine Gx.region ?_
  refine Gx.val rfl rfl rfl (val_assign rfl rfl) ?_
  refine Gx.done ?_
  refine Gx.thenN ?_
  refine Gx.ret ?_
  refine Gx.thenR ?_
  refine Gx.front 7 rfl ?_
  refine Gx.front 7 rfl ?_
  refine Gx.front 7 rfl ?_
  refine Gx.front 7 rfl ?_
  refine Gx.front 7 rfl ?_
  refine Gx.front 7 rfl ?_
  refine Gx.front 7 rfl ?_
  refine Gx.front 7 rfl ?_
  refine Gx.norm (l' := [Hp.rec_ S [pv, .map (some mb), iv], Hp.own FP 1 pv (pms.map Pm.b), Hp.rec_ m.b [.int .i64 ((m.p.n : Nat) : Int), .int .i64 ((m.p.how : Nat) : Int), .int .i64 ((m.p.key : Nat) : Int), m.v, .int .i64 ((m.p.yes : Nat) : Int)], Hp.own FN 1 m.v m.p.waits, R0, wayH L mb s.q, Hp.own FN 1 iv s.ins, R]) rfl ?_
  refine Gx.sat (l' := [worldH S L s, R]) (fun w H => worldH.shutF (s' := s) hk hb (⟨m.b, m.v, ⟨m.p.n, m.p.how, m.p.key, m.p.yes, m.p.waits⟩⟩ : Pm) rfl (by rw [hmap] <;> first | rfl | (simp; done) | (exact (List.set_getElem?_self' hp).symm)) H) ?_
  refine Gx.ret1 Try.results14 rfl ?_
  refine ⟨rfl, ?_⟩
  rw [sep1]
  unfold askM
  rw [hp]
  dsimp only
  rw [if_neg (by omega)]

theorem ask_yes {W w : World} {S L i : Nat} {s : MS} {p : Pq} {R : Hp} (hp : s.ps[i]? = some p) (hn : s.ps.length ≤ 6) (hi : s.ins.length ≤ 10000) (hpn : p.n ≤ 10000) (hpy : p.yes ≤ 10000) (hL : L ≤ 50000) (hw : p.how = 0) (H : Sat W w (worldH S L s * R)) :
    Calls Try.prog 14 #[ptr S 0, .int .i64 ((i : Nat) : Int)] w (Ret W fun v l => v = .int .i64 0 ∧ sep l = worldH S (L + s.ps.length) (askM s i).2 * R) := by
  have hi6 := (List.getElem?_eq_some_iff.1 hp).1
  obtain ⟨pv, mb, iv, pms, m, R0, hmap, hk, hmp, hb, H⟩ := worldH.openF hp H
  have hkb : (pms.map Pm.b)[i]? = some m.b := by rw [List.getElem?_map, hk]; rfl
  have hkl := (List.getElem?_eq_some_iff.1 hk).1
  have hbl : (pms.map Pm.b).length = s.ps.length := by rw [← hmap, List.length_map, List.length_map]
  subst hmp
  refine Gx.enter (l := [Hp.rec_ S [pv, .map (some mb), iv], Hp.own FP 1 pv (pms.map Pm.b), Hp.rec_ m.b [.int .i64 ((m.p.n : Nat) : Int), .int .i64 ((m.p.how : Nat) : Int), .int .i64 ((m.p.key : Nat) : Int), m.v, .int .i64 ((m.p.yes : Nat) : Int)], Hp.own FN 1 m.v m.p.waits, R0, wayH L mb s.q, Hp.own FN 1 iv s.ins, R]) Try.func14 rfl Try.ntmps14 rfl (H) ?_
  refine Gx.know (m' := [(0, ptr S 0), (1, .int .i64 ((i : Nat) : Int))]) (.cons rfl (.cons rfl .nil)) ?_
  refine Gx.seq ?_
  refine Gx.region ?_
  refine Gx.val rfl rfl rfl (val_assign rfl rfl) ?_
  refine Gx.done ?_
  refine Gx.thenN ?_
  refine Gx.seq ?_
  refine Gx.region ?_
  refine Gx.val rfl rfl rfl (val_move rfl rfl) ?_
  refine Gx.val rfl rfl rfl (val_nilCheck rfl rfl) ?_
  refine Gx.val rfl rfl rfl (Val.cast (val_fieldAddr rfl Try.underlying43 rfl Try.ty41 rfl rfl) (v' := ptr S 0) rfl) ?_
  refine Gx.val rfl rfl rfl (val_load rfl Try.ty41 rfl rfl (cell_rec (k := 0) rfl rfl)) ?_
  refine Gx.val rfl rfl rfl (val_move rfl rfl) ?_
  refine Gx.val rfl rfl rfl (val_ixa rfl Try.underlying41 Try.ty44 rfl rfl (j := i) (rfl) (reach_own (k := 1) rfl hkb)) ?_
  refine Gx.val rfl rfl rfl (val_load rfl Try.ty44 rfl rfl (cell_own (i := 0) (k := 1) rfl hkb rfl)) ?_
  refine Gx.val rfl rfl rfl (val_assign rfl rfl) ?_
  refine Gx.done ?_
  refine Gx.thenN ?_
  refine Gx.seq ?_
  refine Gx.seq ?_
  refine Gx.region ?_
  refine Gx.val rfl rfl rfl (val_move rfl rfl) ?_
  refine Gx.val rfl rfl rfl (val_nilCheck rfl rfl) ?_
  refine Gx.val rfl rfl rfl (Val.cast (val_fieldAddr rfl Try.underlying46 rfl Try.ty3 rfl rfl) (v' := ptr m.b 1) rfl) ?_
  refine Gx.val rfl rfl rfl (val_load rfl Try.ty3 rfl rfl (cell_rec (k := 2) rfl rfl)) ?_
  refine Gx.val rfl rfl rfl (val_neq rfl rfl rfl) ?_
  refine Gx.done ?_
  refine Gx.thenN ?_
  refine Gx.decF rfl (by omega) ?_
  refine Gx.skip ?_
  refine Gx.thenN ?_
  refine Gx.seq ?_
  refine Gx.region ?_
  refine Gx.val rfl rfl rfl (val_move rfl rfl) ?_
  refine Gx.val rfl rfl rfl (val_nilCheck rfl rfl) ?_
  refine Gx.val rfl rfl rfl (Val.cast (val_fieldAddr rfl Try.underlying46 rfl Try.ty3 rfl rfl) (v' := ptr m.b 0) rfl) ?_
  refine Gx.val rfl rfl rfl (val_load rfl Try.ty3 rfl rfl (cell_rec (k := 2) rfl rfl)) ?_
  refine Gx.val rfl rfl rfl (val_add rfl rfl rfl (r := ((m.p.n + 1 : Nat) : Int)) (w64 (by omega) (by omega))) ?_
  refine Gx.val rfl rfl rfl (val_nilCheck rfl rfl) ?_
  refine Gx.val rfl rfl rfl (Val.cast (val_fieldAddr rfl Try.underlying46 rfl Try.ty3 rfl rfl) (v' := ptr m.b 0) rfl) ?_
  refine Gx.eff0 rfl rfl (eff_store rfl Try.ty3 rfl rfl (us := [.int .i64 ((m.p.n + 1 : Nat) : Int)]) rfl rfl rfl (k := 2) rfl (rfl) (vs' := [.int .i64 ((m.p.n + 1 : Nat) : Int), .int .i64 ((m.p.how : Nat) : Int), .int .i64 ((m.p.key : Nat) : Int), m.v, .int .i64 ((m.p.yes : Nat) : Int)]) (rfl) (l' := [Hp.rec_ S [pv, .map (some mb), iv], Hp.own FP 1 pv (pms.map Pm.b), Hp.rec_ m.b [.int .i64 ((m.p.n + 1 : Nat) : Int), .int .i64 ((m.p.how : Nat) : Int), .int .i64 ((m.p.key : Nat) : Int), m.v, .int .i64 ((m.p.yes : Nat) : Int)], Hp.own FN 1 m.v m.p.waits, R0, wayH L mb s.q, Hp.own FN 1 iv s.ins, R]) rfl) ?_
  rintro _ _ rfl
  refine Gx.done ?_
  refine Gx.thenN ?_
  refine Gx.seq ?_
  refine Gx.region ?_
  refine Gx.val rfl rfl rfl (val_move rfl rfl) ?_
  refine Gx.val rfl rfl rfl (val_move rfl rfl) ?_
  refine Gx.val rfl rfl rfl (val_move rfl rfl) ?_
  refine Gx.val rfl rfl rfl (val_move rfl rfl) ?_
  refine Gx.val rfl rfl rfl (val_nilCheck rfl rfl) ?_
  refine Gx.val rfl rfl rfl (Val.cast (val_fieldAddr rfl Try.underlying46 rfl Try.ty3 rfl rfl) (v' := ptr m.b 0) rfl) ?_
  refine Gx.val rfl rfl rfl (val_load rfl Try.ty3 rfl rfl (cell_rec (k := 2) rfl rfl)) ?_
  refine Gx.val rfl rfl rfl (val_nilCheck rfl rfl) ?_
  refine Gx.val rfl rfl rfl (Val.cast (val_fieldAddr rfl Try.underlying46 rfl Try.ty3 rfl rfl) (v' := ptr m.b 1) rfl) ?_
  refine Gx.eff0 rfl rfl (eff_store rfl Try.ty3 rfl rfl (us := [.int .i64 1]) rfl rfl rfl (k := 2) rfl (rfl) (vs' := [.int .i64 ((m.p.n + 1 : Nat) : Int), .int .i64 1, .int .i64 ((m.p.key : Nat) : Int), m.v, .int .i64 ((m.p.yes : Nat) : Int)]) (rfl) (l' := [Hp.rec_ S [pv, .map (some mb), iv], Hp.own FP 1 pv (pms.map Pm.b), Hp.rec_ m.b [.int .i64 ((m.p.n + 1 : Nat) : Int), .int .i64 1, .int .i64 ((m.p.key : Nat) : Int), m.v, .int .i64 ((m.p.yes : Nat) : Int)], Hp.own FN 1 m.v m.p.waits, R0, wayH L mb s.q, Hp.own FN 1 iv s.ins, R]) rfl) ?_
  rintro _ _ rfl
  refine Gx.val rfl rfl rfl (val_nilCheck rfl rfl) ?_
  refine Gx.val rfl rfl rfl (Val.cast (val_fieldAddr rfl Try.underlying46 rfl Try.ty3 rfl rfl) (v' := ptr m.b 2) rfl) ?_
  refine Gx.eff0 rfl rfl (eff_store rfl Try.ty3 rfl rfl (us := [.int .i64 ((m.p.n + 1 : Nat) : Int)]) rfl rfl rfl (k := 2) rfl (rfl) (vs' := [.int .i64 ((m.p.n + 1 : Nat) : Int), .int .i64 1, .int .i64 ((m.p.n + 1 : Nat) : Int), m.v, .int .i64 ((m.p.yes : Nat) : Int)]) (rfl) (l' := [Hp.rec_ S [pv, .map (some mb), iv], Hp.own FP 1 pv (pms.map Pm.b), Hp.rec_ m.b [.int .i64 ((m.p.n + 1 : Nat) : Int), .int .i64 1, .int .i64 ((m.p.n + 1 : Nat) : Int), m.v, .int .i64 ((m.p.yes : Nat) : Int)], Hp.own FN 1 m.v m.p.waits, R0, wayH L mb s.q, Hp.own FN 1 iv s.ins, R]) rfl) ?_
  rintro _ _ rfl
  refine Gx.val rfl rfl rfl (val_nilCheck rfl rfl) ?_
  refine Gx.val rfl rfl rfl (Val.cast (val_fieldAddr rfl Try.underlying46 rfl Try.ty3 rfl rfl) (v' := ptr m.b 4) rfl) ?_
  refine Gx.eff0 rfl rfl (eff_store rfl Try.ty3 rfl rfl (us := [.int .i64 0]) rfl rfl rfl (k := 2) rfl (rfl) (vs' := [.int .i64 ((m.p.n + 1 : Nat) : Int), .int .i64 1, .int .i64 ((m.p.n + 1 : Nat) : Int), m.v, .int .i64 0]) (rfl) (l' := [Hp.rec_ S [pv, .map (some mb), iv], Hp.own FP 1 pv (pms.map Pm.b), Hp.rec_ m.b [.int .i64 ((m.p.n + 1 : Nat) : Int), .int .i64 1, .int .i64 ((m.p.n + 1 : Nat) : Int), m.v, .int .i64 0], Hp.own FN 1 m.v m.p.waits, R0, wayH L mb s.q, Hp.own FN 1 iv s.ins, R]) rfl) ?_
  rintro _ _ rfl
  refine Gx.done ?_
  refine Gx.thenN ?_
  refine Gx.seq ?_
  refine Gx.seq ?_
  refine Gx.region ?_
  refine Gx.val rfl rfl rfl (val_move rfl rfl) ?_
  refine Gx.val rfl rfl rfl (val_nilCheck rfl rfl) ?_
  refine Gx.val rfl rfl rfl (Val.cast (val_fieldAddr rfl Try.underlying43 rfl Try.ty41 rfl rfl) (v' := ptr S 0) rfl) ?_
  refine Gx.val rfl rfl rfl (val_load rfl Try.ty41 rfl rfl (cell_rec (k := 0) rfl rfl)) ?_
  refine Gx.val rfl rfl rfl (val_len rfl Try.underlying41 rfl (len_own (k := 1) rfl)) ?_
  refine Gx.val rfl rfl rfl (val_move rfl rfl) ?_
  refine Gx.done ?_
  refine Gx.thenN ?_
  refine Gx.block ?_
  refine Gx.norm (l' := [Hp.rec_ S [pv, .map (some mb), iv], Hp.own FP 1 pv (pms.map Pm.b), Hp.rec_ m.b [.int .i64 ((m.p.n + 1 : Nat) : Int), .int .i64 1, .int .i64 ((m.p.n + 1 : Nat) : Int), m.v, .int .i64 0], Hp.own FN 1 m.v m.p.waits, R0, wayH (L + 0) mb (tellW s.q i (m.p.n + 1) 0), Hp.own FN 1 iv s.ins, R]) rfl ?_
  refine Gx.loop (ι := Nat) (fun ξ => (ξ ≤ s.ps.length)) (fun ξ => [(0, ptr S 0), (1, .int .i64 ((i : Nat) : Int)), (5, ptr m.b 0), (42, pv), (43, .int .i64 (((pms.map Pm.b).length : Nat) : Int)), (44, .int .i64 ((ξ : Nat) : Int))]) (fun ξ => [Hp.rec_ S [pv, .map (some mb), iv], Hp.own FP 1 pv (pms.map Pm.b), Hp.rec_ m.b [.int .i64 ((m.p.n + 1 : Nat) : Int), .int .i64 1, .int .i64 ((m.p.n + 1 : Nat) : Int), m.v, .int .i64 0], Hp.own FN 1 m.v m.p.waits, R0, wayH (L + ξ) mb (tellW s.q i (m.p.n + 1) ξ), Hp.own FN 1 iv s.ins, R]) (fun ξ => s.ps.length - ξ) 0 (by first | omega | (dsimp only; omega)) ((.cons rfl (.cons rfl (.cons rfl (.cons rfl (.cons rfl (.cons rfl .nil))))))) rfl ?_
  rintro j hj
  refine Gx.know (m' := [(0, ptr S 0), (1, .int .i64 ((i : Nat) : Int)), (5, ptr m.b 0), (42, pv), (43, .int .i64 (((pms.map Pm.b).length : Nat) : Int)), (44, .int .i64 ((j : Nat) : Int))]) (.cons rfl (.cons rfl (.cons rfl (.cons rfl (.cons rfl (.cons rfl .nil)))))) (Gx.norm (l' := [Hp.rec_ S [pv, .map (some mb), iv], Hp.own FP 1 pv (pms.map Pm.b), Hp.rec_ m.b [.int .i64 ((m.p.n + 1 : Nat) : Int), .int .i64 1, .int .i64 ((m.p.n + 1 : Nat) : Int), m.v, .int .i64 0], Hp.own FN 1 m.v m.p.waits, R0, wayH (L + j) mb (tellW s.q i (m.p.n + 1) j), Hp.own FN 1 iv s.ins, R]) rfl ?_)
  refine Gx.seq ?_
  refine Gx.region ?_
  refine Gx.val rfl rfl rfl (val_lss rfl rfl rfl) ?_
  refine Gx.done ?_
  refine Gx.thenN ?_
  refine Gx.seq ?_
  refine Gx.dec rfl (fun h1 => ?_) (fun h1 => ?_)
  · refine Gx.skip ?_
    refine Gx.thenN ?_
    refine Gx.seq ?_
    refine Gx.block ?_
    refine Gx.seq ?_
    refine Gx.region ?_
    refine Gx.val rfl rfl rfl (val_move rfl rfl) ?_
    refine Gx.val rfl rfl rfl (val_assign rfl rfl) ?_
    refine Gx.done ?_
    refine Gx.thenN ?_
    refine Gx.seq ?_
    refine Gx.region ?_
    refine Gx.val rfl rfl rfl (val_move rfl rfl) ?_
    refine Gx.val rfl rfl rfl (val_move rfl rfl) ?_
    refine Gx.val rfl rfl rfl (val_neq rfl rfl rfl) ?_
    refine Gx.done ?_
    refine Gx.thenN ?_
    refine Gx.dec rfl (fun h2 => ?_) (fun h2 => ?_)
    · refine Gx.region ?_
      refine Gx.val rfl rfl rfl (val_move rfl rfl) ?_
      refine Gx.val rfl rfl rfl (val_move rfl rfl) ?_
      refine Gx.val rfl rfl rfl (val_move rfl rfl) ?_
      refine Gx.val rfl rfl rfl (val_move rfl rfl) ?_
      refine Gx.val rfl rfl rfl (val_nilCheck rfl rfl) ?_
      refine Gx.val rfl rfl rfl (Val.cast (val_fieldAddr rfl Try.underlying46 rfl Try.ty3 rfl rfl) (v' := ptr m.b 2) rfl) ?_
      refine Gx.val rfl rfl rfl (val_load rfl Try.ty3 rfl rfl (cell_rec (k := 2) rfl rfl)) ?_
      refine Gx.eff rfl rfl rfl (eff_call (vs := [ptr S 0, .int .i64 ((i : Nat) : Int), .int .i64 ((j : Nat) : Int), .int .i64 ((m.p.n + 1 : Nat) : Int)]) rfl Try.fn17 rfl (fun w H => send_nat (i := i) (j := j) (x := m.p.n + 1) (by omega) (by omega) (by omega) (H.at2 (k := 0) (k' := 4) rfl rfl))) ?_
      rintro _ l3 ⟨rfl, hl3⟩
      refine Gx.sepEq (l' := [Hp.rec_ S [pv, .map (some mb), iv], wayH (L + j + 1) mb (sendW (tellW s.q i (m.p.n + 1) j) i j (m.p.n + 1)), Hp.own FP 1 pv (pms.map Pm.b), Hp.rec_ m.b [.int .i64 ((m.p.n + 1 : Nat) : Int), .int .i64 1, .int .i64 ((m.p.n + 1 : Nat) : Int), m.v, .int .i64 0], Hp.own FN 1 m.v m.p.waits, R0, Hp.own FN 1 iv s.ins, R]) hl3 ?_
      refine Gx.done ?_
      refine Gx.blkN ?_
      refine Gx.thenN ?_
      refine Gx.region ?_
      refine Gx.val rfl rfl rfl (val_add rfl rfl rfl (r := ((j + 1 : Nat) : Int)) (w64 (by omega) (by omega))) ?_
      refine Gx.val rfl rfl rfl (val_move rfl rfl) ?_
      refine Gx.done ?_
      refine Gx.thenN ?_
      refine Gx.front 7 rfl ?_
      refine Gx.front 7 rfl ?_
      refine Gx.front 3 rfl ?_
      refine Gx.front 7 rfl ?_
      refine Gx.front 7 rfl ?_
      refine Gx.front 7 rfl ?_
      refine Gx.front 7 rfl ?_
      refine Gx.front 7 rfl ?_
      refine Gx.norm (l' := [Hp.rec_ S [pv, .map (some mb), iv], Hp.own FP 1 pv (pms.map Pm.b), Hp.rec_ m.b [.int .i64 ((m.p.n + 1 : Nat) : Int), .int .i64 1, .int .i64 ((m.p.n + 1 : Nat) : Int), m.v, .int .i64 0], Hp.own FN 1 m.v m.p.waits, R0, wayH (L + (j + 1)) mb (tellW s.q i (m.p.n + 1) (j + 1)), Hp.own FN 1 iv s.ins, R]) (by rw [tellW_at, if_neg (by omega)] <;> rfl) ?_
      exact Gx.round (j + 1) (by first | omega | (dsimp only; omega)) (by first | omega | (dsimp only; omega)) ((.cons rfl (.cons rfl (.cons rfl (.cons rfl (.cons rfl (.cons rfl .nil))))))) rfl
    · refine Gx.skip ?_
      refine Gx.blkN ?_
      refine Gx.thenN ?_
      refine Gx.region ?_
      refine Gx.val rfl rfl rfl (val_add rfl rfl rfl (r := ((j + 1 : Nat) : Int)) (w64 (by omega) (by omega))) ?_
      refine Gx.val rfl rfl rfl (val_move rfl rfl) ?_
      refine Gx.done ?_
      refine Gx.thenN ?_
      refine Gx.part (k := 5) (q := wayH (L + j + 1) mb (tellW s.q i (m.p.n + 1) j)) rfl wayH.mono ?_
      refine Gx.norm (l' := [Hp.rec_ S [pv, .map (some mb), iv], Hp.own FP 1 pv (pms.map Pm.b), Hp.rec_ m.b [.int .i64 ((m.p.n + 1 : Nat) : Int), .int .i64 1, .int .i64 ((m.p.n + 1 : Nat) : Int), m.v, .int .i64 0], Hp.own FN 1 m.v m.p.waits, R0, wayH (L + (j + 1)) mb (tellW s.q i (m.p.n + 1) (j + 1)), Hp.own FN 1 iv s.ins, R]) (by rw [tellW_at, if_pos (by omega)] <;> rfl) ?_
      exact Gx.round (j + 1) (by first | omega | (dsimp only; omega)) (by first | omega | (dsimp only; omega)) ((.cons rfl (.cons rfl (.cons rfl (.cons rfl (.cons rfl (.cons rfl .nil))))))) rfl
  · refine Gx.exit ?_
    refine Gx.thenE ?_
    refine Gx.thenE ?_
    refine Gx.blkE ?_
    refine Gx.thenN ?_
    refine Gx.seq ?_
    obtain rfl : j = s.ps.length := by omega
    refine Gx.norm (l' := [Hp.rec_ S [pv, .map (some mb), iv], Hp.own FP 1 pv (pms.map Pm.b), Hp.rec_ m.b [.int .i64 ((m.p.n + 1 : Nat) : Int), .int .i64 1, .int .i64 ((m.p.n + 1 : Nat) : Int), m.v, .int .i64 0], Hp.own FN 1 m.v m.p.waits, R0, wayH (L + s.ps.length) mb (tellW s.q i (m.p.n + 1) s.ps.length), Hp.own FN 1 iv s.ins, R]) rfl ?_
    refine Gx.front 7 rfl ?_
    refine Gx.front 7 rfl ?_
    refine Gx.front 7 rfl ?_
    refine Gx.front 7 rfl ?_
    refine Gx.front 7 rfl ?_
    refine Gx.front 7 rfl ?_
    refine Gx.front 7 rfl ?_
    refine Gx.front 7 rfl ?_
    refine Gx.norm (l' := [Hp.rec_ S [pv, .map (some mb), iv], Hp.own FP 1 pv (pms.map Pm.b), Hp.rec_ m.b [.int .i64 ((m.p.n + 1 : Nat) : Int), .int .i64 1, .int .i64 ((m.p.n + 1 : Nat) : Int), m.v, .int .i64 0], Hp.own FN 1 m.v m.p.waits, R0, wayH (L + s.ps.length) mb (tellW s.q i (m.p.n + 1) s.ps.length), Hp.own FN 1 iv s.ins, R]) rfl ?_
    refine Gx.sat (l' := [worldH S (L + s.ps.length) ({ s with ps := s.ps.set i ⟨m.p.n + 1, 1, m.p.n + 1, 0, m.p.waits⟩, q := tellW s.q i (m.p.n + 1) s.ps.length }), R]) (fun w H => worldH.shutF (s' := { s with ps := s.ps.set i ⟨m.p.n + 1, 1, m.p.n + 1, 0, m.p.waits⟩, q := tellW s.q i (m.p.n + 1) s.ps.length }) hk hb (⟨m.b, m.v, ⟨m.p.n + 1, 1, m.p.n + 1, 0, m.p.waits⟩⟩ : Pm) rfl (by rw [hmap] <;> first | rfl | (simp; done) | (exact (List.set_getElem?_self' hp).symm)) H) ?_
    refine Gx.region ?_
    refine Gx.val rfl rfl rfl (val_move rfl rfl) ?_
    refine Gx.val rfl rfl rfl (val_move rfl rfl) ?_
    refine Gx.eff rfl rfl rfl (eff_call (vs := [ptr S 0, .int .i64 ((i : Nat) : Int)]) rfl Try.fn18 rfl (fun w H => enter_any (s := { s with ps := s.ps.set i ⟨m.p.n + 1, 1, m.p.n + 1, 0, m.p.waits⟩, q := tellW s.q i (m.p.n + 1) s.ps.length }) (p := ⟨m.p.n + 1, 1, m.p.n + 1, 0, m.p.waits⟩) (i := i) (List.getElem?_set_self (List.getElem?_eq_some_iff.1 hp).1) (by rw [List.length_set]; exact hn) (by dsimp only; omega) (by dsimp only; omega) (H.at_ (k := 0) rfl))) ?_
    rintro _ l4 ⟨rfl, hl4⟩
    refine Gx.sepEq (l' := [worldH S (L + s.ps.length) (enterM ({ s with ps := s.ps.set i ⟨m.p.n + 1, 1, m.p.n + 1, 0, m.p.waits⟩, q := tellW s.q i (m.p.n + 1) s.ps.length }) i), R]) hl4 ?_
    refine Gx.done ?_
    refine Gx.thenN ?_
    refine Gx.seq ?_
    refine Gx.region ?_
    refine Gx.val rfl rfl rfl (val_assign rfl rfl) ?_
    refine Gx.done ?_
    refine Gx.thenN ?_
    refine Gx.ret ?_
    refine Gx.ret1 Try.results14 rfl ?_
    refine ⟨rfl, ?_⟩
    rw [sep1]
    unfold askM
    rw [hp]
    dsimp only
    rw [if_pos (by omega)]

theorem leave_no {W w : World} {S L i : Nat} {s : MS} {p : Pq} {R : Hp} (hp : s.ps[i]? = some p) (hn : s.ps.length ≤ 6) (hi : s.ins.length ≤ 10000) (hpn : p.n ≤ 10000) (hpy : p.yes ≤ 10000) (hL : L ≤ 50000) (hwl : p.waits.length ≤ 10000) (hwt : ∀ j ∈ p.waits, j < 2048) (hw : p.how ≠ 2) (H : Sat W w (worldH S L s * R)) :
    Calls Try.prog 16 #[ptr S 0, .int .i64 ((i : Nat) : Int)] w (Ret W fun v l => v = .int .i64 6 ∧ sep l = worldH S L (leaveM s i).2 * R) := by
  have hi6 := (List.getElem?_eq_some_iff.1 hp).1
  obtain ⟨pv, mb, iv, pms, m, R0, hmap, hk, hmp, hb, H⟩ := worldH.openF hp H
  have hkb : (pms.map Pm.b)[i]? = some m.b := by rw [List.getElem?_map, hk]; rfl
  have hkl := (List.getElem?_eq_some_iff.1 hk).1
  have hbl : (pms.map Pm.b).length = s.ps.length := by rw [← hmap, List.length_map, List.length_map]
  subst hmp
  refine Gx.enter (l := [Hp.rec_ S [pv, .map (some mb), iv], Hp.own FP 1 pv (pms.map Pm.b), Hp.rec_ m.b [.int .i64 ((m.p.n : Nat) : Int), .int .i64 ((m.p.how : Nat) : Int), .int .i64 ((m.p.key : Nat) : Int), m.v, .int .i64 ((m.p.yes : Nat) : Int)], Hp.own FN 1 m.v m.p.waits, R0, wayH L mb s.q, Hp.own FN 1 iv s.ins, R]) Try.func16 rfl Try.ntmps16 rfl (H) ?_
  refine Gx.know (m' := [(0, ptr S 0), (1, .int .i64 ((i : Nat) : Int))]) (.cons rfl (.cons rfl .nil)) ?_
  refine Gx.seq ?_
  refine Gx.region ?_
  refine Gx.val rfl rfl rfl (val_assign rfl rfl) ?_
  refine Gx.done ?_
  refine Gx.thenN ?_
  refine Gx.seq ?_
  refine Gx.region ?_
  refine Gx.val rfl rfl rfl (val_move rfl rfl) ?_
  refine Gx.val rfl rfl rfl (val_nilCheck rfl rfl) ?_
  refine Gx.val rfl rfl rfl (Val.cast (val_fieldAddr rfl Try.underlying43 rfl Try.ty41 rfl rfl) (v' := ptr S 0) rfl) ?_
  refine Gx.val rfl rfl rfl (val_load rfl Try.ty41 rfl rfl (cell_rec (k := 0) rfl rfl)) ?_
  refine Gx.val rfl rfl rfl (val_move rfl rfl) ?_
  refine Gx.val rfl rfl rfl (val_ixa rfl Try.underlying41 Try.ty44 rfl rfl (j := i) (rfl) (reach_own (k := 1) rfl hkb)) ?_
  refine Gx.val rfl rfl rfl (val_load rfl Try.ty44 rfl rfl (cell_own (i := 0) (k := 1) rfl hkb rfl)) ?_
  refine Gx.val rfl rfl rfl (val_assign rfl rfl) ?_
  refine Gx.done ?_
  refine Gx.thenN ?_
  refine Gx.seq ?_
  refine Gx.seq ?_
  refine Gx.region ?_
  refine Gx.val rfl rfl rfl (val_move rfl rfl) ?_
  refine Gx.val rfl rfl rfl (val_nilCheck rfl rfl) ?_
  refine Gx.val rfl rfl rfl (Val.cast (val_fieldAddr rfl Try.underlying46 rfl Try.ty3 rfl rfl) (v' := ptr m.b 1) rfl) ?_
  refine Gx.val rfl rfl rfl (val_load rfl Try.ty3 rfl rfl (cell_rec (k := 2) rfl rfl)) ?_
  refine Gx.val rfl rfl rfl (val_neq rfl rfl rfl) ?_
  refine Gx.done ?_
  refine Gx.thenN ?_
  refine Gx.decT rfl (by omega) ?_
  refine Gx.seq ?_
  refine Gx.region ?_
  refine Gx.val rfl rfl rfl (val_assign rfl rfl) ?_
  refine Gx.done ?_
  refine Gx.thenN ?_
  refine Gx.ret ?_
  refine Gx.thenR ?_
  refine Gx.front 7 rfl ?_
  refine Gx.front 7 rfl ?_
  refine Gx.front 7 rfl ?_
  refine Gx.front 7 rfl ?_
  refine Gx.front 7 rfl ?_
  refine Gx.front 7 rfl ?_
  refine Gx.front 7 rfl ?_
  refine Gx.front 7 rfl ?_
  refine Gx.norm (l' := [Hp.rec_ S [pv, .map (some mb), iv], Hp.own FP 1 pv (pms.map Pm.b), Hp.rec_ m.b [.int .i64 ((m.p.n : Nat) : Int), .int .i64 ((m.p.how : Nat) : Int), .int .i64 ((m.p.key : Nat) : Int), m.v, .int .i64 ((m.p.yes : Nat) : Int)], Hp.own FN 1 m.v m.p.waits, R0, wayH L mb s.q, Hp.own FN 1 iv s.ins, R]) rfl ?_
  refine Gx.sat (l' := [worldH S L s, R]) (fun w H => worldH.shutF (s' := s) hk hb (⟨m.b, m.v, ⟨m.p.n, m.p.how, m.p.key, m.p.yes, m.p.waits⟩⟩ : Pm) rfl (by rw [hmap] <;> first | rfl | (simp; done) | (exact (List.set_getElem?_self' hp).symm)) H) ?_
  refine Gx.ret1 Try.results16 rfl ?_
  refine ⟨rfl, ?_⟩
  rw [sep1]
  unfold leaveM
  rw [hp]
  dsimp only
  rw [if_neg (by omega)]

theorem leave_yes {W w : World} {S L i : Nat} {s : MS} {p : Pq} {R : Hp} (hp : s.ps[i]? = some p) (hn : s.ps.length ≤ 6) (hi : s.ins.length ≤ 10000) (hpn : p.n ≤ 10000) (hpy : p.yes ≤ 10000) (hL : L ≤ 50000) (hwl : p.waits.length ≤ 10000) (hwt : ∀ j ∈ p.waits, j < 2048) (hw : p.how = 2) (H : Sat W w (worldH S L s * R)) :
    Calls Try.prog 16 #[ptr S 0, .int .i64 ((i : Nat) : Int)] w (Ret W fun v l => v = .int .i64 0 ∧ sep l = worldH S (L + p.waits.length) (leaveM s i).2 * R) := by
  have hi6 := (List.getElem?_eq_some_iff.1 hp).1
  obtain ⟨pv, mb, iv, pms, m, R0, hmap, hk, hmp, hb, H⟩ := worldH.openF hp H
  have hkb : (pms.map Pm.b)[i]? = some m.b := by rw [List.getElem?_map, hk]; rfl
  have hkl := (List.getElem?_eq_some_iff.1 hk).1
  have hbl : (pms.map Pm.b).length = s.ps.length := by rw [← hmap, List.length_map, List.length_map]
  subst hmp
  refine Gx.enter (l := [Hp.rec_ S [pv, .map (some mb), iv], Hp.own FP 1 pv (pms.map Pm.b), Hp.rec_ m.b [.int .i64 ((m.p.n : Nat) : Int), .int .i64 ((m.p.how : Nat) : Int), .int .i64 ((m.p.key : Nat) : Int), m.v, .int .i64 ((m.p.yes : Nat) : Int)], Hp.own FN 1 m.v m.p.waits, R0, wayH L mb s.q, Hp.own FN 1 iv s.ins, R]) Try.func16 rfl Try.ntmps16 rfl (H) ?_
  refine Gx.know (m' := [(0, ptr S 0), (1, .int .i64 ((i : Nat) : Int))]) (.cons rfl (.cons rfl .nil)) ?_
  refine Gx.seq ?_
  refine Gx.region ?_
  refine Gx.val rfl rfl rfl (val_assign rfl rfl) ?_
  refine Gx.done ?_
  refine Gx.thenN ?_
  refine Gx.seq ?_
  refine Gx.region ?_
  refine Gx.val rfl rfl rfl (val_move rfl rfl) ?_
  refine Gx.val rfl rfl rfl (val_nilCheck rfl rfl) ?_
  refine Gx.val rfl rfl rfl (Val.cast (val_fieldAddr rfl Try.underlying43 rfl Try.ty41 rfl rfl) (v' := ptr S 0) rfl) ?_
  refine Gx.val rfl rfl rfl (val_load rfl Try.ty41 rfl rfl (cell_rec (k := 0) rfl rfl)) ?_
  refine Gx.val rfl rfl rfl (val_move rfl rfl) ?_
  refine Gx.val rfl rfl rfl (val_ixa rfl Try.underlying41 Try.ty44 rfl rfl (j := i) (rfl) (reach_own (k := 1) rfl hkb)) ?_
  refine Gx.val rfl rfl rfl (val_load rfl Try.ty44 rfl rfl (cell_own (i := 0) (k := 1) rfl hkb rfl)) ?_
  refine Gx.val rfl rfl rfl (val_assign rfl rfl) ?_
  refine Gx.done ?_
  refine Gx.thenN ?_
  refine Gx.seq ?_
  refine Gx.seq ?_
  refine Gx.region ?_
  refine Gx.val rfl rfl rfl (val_move rfl rfl) ?_
  refine Gx.val rfl rfl rfl (val_nilCheck rfl rfl) ?_
  refine Gx.val rfl rfl rfl (Val.cast (val_fieldAddr rfl Try.underlying46 rfl Try.ty3 rfl rfl) (v' := ptr m.b 1) rfl) ?_
  refine Gx.val rfl rfl rfl (val_load rfl Try.ty3 rfl rfl (cell_rec (k := 2) rfl rfl)) ?_
  refine Gx.val rfl rfl rfl (val_neq rfl rfl rfl) ?_
  refine Gx.done ?_
  refine Gx.thenN ?_
  refine Gx.decF rfl (by omega) ?_
  refine Gx.skip ?_
  refine Gx.thenN ?_
  refine Gx.seq ?_
  refine Gx.region ?_
  refine Gx.val rfl rfl rfl (val_move rfl rfl) ?_
  refine Gx.val rfl rfl rfl (val_nilCheck rfl rfl) ?_
  refine Gx.val rfl rfl rfl (Val.cast (val_fieldAddr rfl Try.underlying46 rfl Try.ty3 rfl rfl) (v' := ptr m.b 1) rfl) ?_
  refine Gx.eff0 rfl rfl (eff_store rfl Try.ty3 rfl rfl (us := [.int .i64 0]) rfl rfl rfl (k := 2) rfl (rfl) (vs' := [.int .i64 ((m.p.n : Nat) : Int), .int .i64 0, .int .i64 ((m.p.key : Nat) : Int), m.v, .int .i64 ((m.p.yes : Nat) : Int)]) (rfl) (l' := [Hp.rec_ S [pv, .map (some mb), iv], Hp.own FP 1 pv (pms.map Pm.b), Hp.rec_ m.b [.int .i64 ((m.p.n : Nat) : Int), .int .i64 0, .int .i64 ((m.p.key : Nat) : Int), m.v, .int .i64 ((m.p.yes : Nat) : Int)], Hp.own FN 1 m.v m.p.waits, R0, wayH L mb s.q, Hp.own FN 1 iv s.ins, R]) rfl) ?_
  rintro _ _ rfl
  refine Gx.done ?_
  refine Gx.thenN ?_
  refine Gx.seq ?_
  refine Gx.seq ?_
  refine Gx.region ?_
  refine Gx.val rfl rfl rfl (val_move rfl rfl) ?_
  refine Gx.val rfl rfl rfl (val_nilCheck rfl rfl) ?_
  refine Gx.val rfl rfl rfl (Val.cast (val_fieldAddr rfl Try.underlying46 rfl Try.ty24 rfl rfl) (v' := ptr m.b 3) rfl) ?_
  refine Gx.val rfl rfl rfl (val_load rfl Try.ty24 rfl rfl (cell_rec (k := 2) rfl rfl)) ?_
  refine Gx.val rfl rfl rfl (val_len rfl Try.underlying24 rfl (len_own (k := 3) rfl)) ?_
  refine Gx.val rfl rfl rfl (val_move rfl rfl) ?_
  refine Gx.done ?_
  refine Gx.thenN ?_
  refine Gx.block ?_
  refine Gx.norm (l' := [Hp.rec_ S [pv, .map (some mb), iv], Hp.own FP 1 pv (pms.map Pm.b), Hp.rec_ m.b [.int .i64 ((m.p.n : Nat) : Int), .int .i64 0, .int .i64 ((m.p.key : Nat) : Int), m.v, .int .i64 ((m.p.yes : Nat) : Int)], Hp.own FN 1 m.v m.p.waits, R0, wayH (L + 0) mb (yesW s.q i (m.p.waits.take 0)), Hp.own FN 1 iv s.ins, R]) rfl ?_
  refine Gx.loop (ι := Nat) (fun ξ => (ξ ≤ m.p.waits.length)) (fun ξ => [(0, ptr S 0), (1, .int .i64 ((i : Nat) : Int)), (5, ptr m.b 0), (26, m.v), (27, .int .i64 ((m.p.waits.length : Nat) : Int)), (28, .int .i64 ((ξ : Nat) : Int))]) (fun ξ => [Hp.rec_ S [pv, .map (some mb), iv], Hp.own FP 1 pv (pms.map Pm.b), Hp.rec_ m.b [.int .i64 ((m.p.n : Nat) : Int), .int .i64 0, .int .i64 ((m.p.key : Nat) : Int), m.v, .int .i64 ((m.p.yes : Nat) : Int)], Hp.own FN 1 m.v m.p.waits, R0, wayH (L + ξ) mb (yesW s.q i (m.p.waits.take ξ)), Hp.own FN 1 iv s.ins, R]) (fun ξ => m.p.waits.length - ξ) 0 (by first | omega | (dsimp only; omega)) ((.cons rfl (.cons rfl (.cons rfl (.cons rfl (.cons rfl (.cons rfl .nil))))))) rfl ?_
  rintro k hk9
  refine Gx.know (m' := [(0, ptr S 0), (1, .int .i64 ((i : Nat) : Int)), (5, ptr m.b 0), (26, m.v), (27, .int .i64 ((m.p.waits.length : Nat) : Int)), (28, .int .i64 ((k : Nat) : Int))]) (.cons rfl (.cons rfl (.cons rfl (.cons rfl (.cons rfl (.cons rfl .nil)))))) (Gx.norm (l' := [Hp.rec_ S [pv, .map (some mb), iv], Hp.own FP 1 pv (pms.map Pm.b), Hp.rec_ m.b [.int .i64 ((m.p.n : Nat) : Int), .int .i64 0, .int .i64 ((m.p.key : Nat) : Int), m.v, .int .i64 ((m.p.yes : Nat) : Int)], Hp.own FN 1 m.v m.p.waits, R0, wayH (L + k) mb (yesW s.q i (m.p.waits.take k)), Hp.own FN 1 iv s.ins, R]) rfl ?_)
  refine Gx.seq ?_
  refine Gx.region ?_
  refine Gx.val rfl rfl rfl (val_lss rfl rfl rfl) ?_
  refine Gx.done ?_
  refine Gx.thenN ?_
  refine Gx.seq ?_
  refine Gx.dec rfl (fun h1 => ?_) (fun h1 => ?_)
  · refine Gx.skip ?_
    refine Gx.thenN ?_
    refine Gx.seq ?_
    refine Gx.block ?_
    refine Gx.seq ?_
    refine Gx.region ?_
    obtain ⟨x2, hx2⟩ := get_of_lt (xs := m.p.waits) (k := k) (by omega)
    refine Gx.val rfl rfl rfl (val_ixa rfl Try.underlying24 Try.ty3 rfl rfl (j := k) (rfl) (reach_own (k := 3) rfl hx2)) ?_
    refine Gx.val rfl rfl rfl (val_load rfl Try.ty3 rfl rfl (cell_own (i := 0) (k := 3) rfl hx2 rfl)) ?_
    refine Gx.val rfl rfl rfl (val_assign rfl rfl) ?_
    refine Gx.done ?_
    refine Gx.thenN ?_
    have hwx := hwt _ (List.mem_of_getElem? hx2)
    refine Gx.region ?_
    refine Gx.val rfl rfl rfl (val_move rfl rfl) ?_
    refine Gx.val rfl rfl rfl (val_move rfl rfl) ?_
    refine Gx.val rfl rfl rfl (val_move rfl rfl) ?_
    refine Gx.eff rfl rfl rfl (eff_call (vs := [ptr S 0, .int .i64 ((i : Nat) : Int), .int .i64 ((x2 : Nat) : Int), .int .i64 0]) rfl Try.fn17 rfl (fun w H => send_nat (i := i) (j := x2) (x := 0) (by omega) (by omega) (by omega) (H.at2 (k := 0) (k' := 4) rfl rfl))) ?_
    rintro _ l3 ⟨rfl, hl3⟩
    refine Gx.sepEq (l' := [Hp.rec_ S [pv, .map (some mb), iv], wayH (L + k + 1) mb (sendW (yesW s.q i (m.p.waits.take k)) i x2 0), Hp.own FP 1 pv (pms.map Pm.b), Hp.rec_ m.b [.int .i64 ((m.p.n : Nat) : Int), .int .i64 0, .int .i64 ((m.p.key : Nat) : Int), m.v, .int .i64 ((m.p.yes : Nat) : Int)], Hp.own FN 1 m.v m.p.waits, R0, Hp.own FN 1 iv s.ins, R]) hl3 ?_
    refine Gx.done ?_
    refine Gx.blkN ?_
    refine Gx.thenN ?_
    refine Gx.region ?_
    refine Gx.val rfl rfl rfl (val_add rfl rfl rfl (r := ((k + 1 : Nat) : Int)) (w64 (by omega) (by omega))) ?_
    refine Gx.val rfl rfl rfl (val_move rfl rfl) ?_
    refine Gx.done ?_
    refine Gx.thenN ?_
    refine Gx.front 7 rfl ?_
    refine Gx.front 7 rfl ?_
    refine Gx.front 3 rfl ?_
    refine Gx.front 7 rfl ?_
    refine Gx.front 7 rfl ?_
    refine Gx.front 7 rfl ?_
    refine Gx.front 7 rfl ?_
    refine Gx.front 7 rfl ?_
    refine Gx.norm (l' := [Hp.rec_ S [pv, .map (some mb), iv], Hp.own FP 1 pv (pms.map Pm.b), Hp.rec_ m.b [.int .i64 ((m.p.n : Nat) : Int), .int .i64 0, .int .i64 ((m.p.key : Nat) : Int), m.v, .int .i64 ((m.p.yes : Nat) : Int)], Hp.own FN 1 m.v m.p.waits, R0, wayH (L + (k + 1)) mb (yesW s.q i (m.p.waits.take (k + 1))), Hp.own FN 1 iv s.ins, R]) (by rw [take_of hx2, yesW_snoc] <;> rfl) ?_
    exact Gx.round (k + 1) (by first | omega | (dsimp only; omega)) (by first | omega | (dsimp only; omega)) ((.cons rfl (.cons rfl (.cons rfl (.cons rfl (.cons rfl (.cons rfl .nil))))))) rfl
  · refine Gx.exit ?_
    refine Gx.thenE ?_
    refine Gx.thenE ?_
    refine Gx.blkE ?_
    refine Gx.thenN ?_
    refine Gx.seq ?_
    obtain rfl : k = m.p.waits.length := by omega
    refine Gx.norm (l' := [Hp.rec_ S [pv, .map (some mb), iv], Hp.own FP 1 pv (pms.map Pm.b), Hp.rec_ m.b [.int .i64 ((m.p.n : Nat) : Int), .int .i64 0, .int .i64 ((m.p.key : Nat) : Int), m.v, .int .i64 ((m.p.yes : Nat) : Int)], Hp.own FN 1 m.v m.p.waits, R0, wayH (L + m.p.waits.length) mb (yesW s.q i m.p.waits), Hp.own FN 1 iv s.ins, R]) (by rw [List.take_length] <;> rfl) ?_
    refine Gx.region ?_
    refine Gx.val rfl rfl rfl (val_move rfl rfl) ?_
    refine Gx.val rfl rfl rfl (val_nilCheck rfl rfl) ?_
    refine Gx.val rfl rfl rfl (Val.cast (val_fieldAddr rfl Try.underlying46 rfl Try.ty24 rfl rfl) (v' := ptr m.b 3) rfl) ?_
    refine Gx.eff0 rfl rfl (eff_store rfl Try.ty24 rfl rfl (us := [.slice none 0 0]) rfl rfl rfl (k := 2) rfl (rfl) (vs' := [.int .i64 ((m.p.n : Nat) : Int), .int .i64 0, .int .i64 ((m.p.key : Nat) : Int), .slice none 0 0, .int .i64 ((m.p.yes : Nat) : Int)]) (rfl) (l' := [Hp.rec_ S [pv, .map (some mb), iv], Hp.own FP 1 pv (pms.map Pm.b), Hp.rec_ m.b [.int .i64 ((m.p.n : Nat) : Int), .int .i64 0, .int .i64 ((m.p.key : Nat) : Int), .slice none 0 0, .int .i64 ((m.p.yes : Nat) : Int)], Hp.own FN 1 m.v m.p.waits, R0, wayH (L + m.p.waits.length) mb (yesW s.q i m.p.waits), Hp.own FN 1 iv s.ins, R]) rfl) ?_
    rintro _ _ rfl
    refine Gx.done ?_
    refine Gx.thenN ?_
    refine Gx.seq ?_
    refine Gx.region ?_
    refine Gx.val rfl rfl rfl (val_assign rfl rfl) ?_
    refine Gx.done ?_
    refine Gx.thenN ?_
    refine Gx.ret ?_
    refine Gx.ownNil FN 1 ?_
    refine Gx.drop 4 rfl ?_
    refine Gx.front 7 rfl ?_
    refine Gx.front 7 rfl ?_
    refine Gx.front 7 rfl ?_
    refine Gx.front 7 rfl ?_
    refine Gx.front 4 rfl ?_
    refine Gx.front 7 rfl ?_
    refine Gx.front 7 rfl ?_
    refine Gx.front 7 rfl ?_
    refine Gx.norm (l' := [Hp.rec_ S [pv, .map (some mb), iv], Hp.own FP 1 pv (pms.map Pm.b), Hp.rec_ m.b [.int .i64 ((m.p.n : Nat) : Int), .int .i64 0, .int .i64 ((m.p.key : Nat) : Int), .slice none 0 0, .int .i64 ((m.p.yes : Nat) : Int)], Hp.own FN 1 (.slice none 0 0) ([]), R0, wayH (L + m.p.waits.length) mb (yesW s.q i m.p.waits), Hp.own FN 1 iv s.ins, R]) rfl ?_
    refine Gx.sat (l' := [worldH S (L + m.p.waits.length) ({ s with ps := s.ps.set i { m.p with how := 0, waits := [] }, q := yesW s.q i m.p.waits }), R]) (fun w H => worldH.shutF (s' := { s with ps := s.ps.set i { m.p with how := 0, waits := [] }, q := yesW s.q i m.p.waits }) hk hb (⟨m.b, .slice none 0 0, ⟨m.p.n, 0, m.p.key, m.p.yes, []⟩⟩ : Pm) rfl (by rw [hmap] <;> first | rfl | (simp; done) | (exact (List.set_getElem?_self' hp).symm)) H) ?_
    refine Gx.ret1 Try.results16 rfl ?_
    refine ⟨rfl, ?_⟩
    rw [sep1]
    unfold leaveM
    rw [hp]
    dsimp only
    rw [if_pos (by omega)]

end Go.Proofs.Ytgfileonpoghmaa
