/- Something comes in. The walk. No condition. -/
import Derived.Test.YtgfileonpoghmaaA3
namespace Go.Proofs.Ytgfileonpoghmaa
open Go.RowKit
set_option linter.unusedVariables false
set_option linter.unusedSimpArgs false
set_option maxRecDepth 100000

theorem way_focus (ms : Ws) (k : Sm × Sm) : ∃ R1, (∀ {W w : World} {R : Hp}, Sat W w (Hp.big rowH ms * R) → Sat W w (Hp.own FN 1 ((getM ms k).getD zRv).v ((getM ms k).getD zRv).xs * (R1 * R))) ∧
    (∀ y, Hp.big rowH (putM ms k y) = Hp.own FN 1 y.v y.xs * R1) ∧ (∀ {W w : World} {R : Hp}, Sat W w (Hp.own FN 1 ((getM ms k).getD zRv).v ((getM ms k).getD zRv).xs * (R1 * R)) → Sat W w (Hp.big rowH ms * R)) := by
  cases hg : getM ms k with
  | none =>
    refine ⟨Hp.big rowH ms, fun H => H.nil FN 1, fun y => ?_, fun H => H.drop⟩
    rw [putM_none y hg, Hp.big_append]
    show _ * (Hp.own FN 1 y.v y.xs * 1) = _
    rw [Hp.mul_one, Hp.mul_comm]
  | some r =>
    obtain ⟨j, h1, h2⟩ := getM_index hg
    obtain ⟨R0, hb1, hb2⟩ := Hp.big_focus rowH ms j _ h1
    refine ⟨R0, fun H => ?_, fun y => by rw [h2, hb2], fun H => ?_⟩
    · rw [hb1] at H; exact H.cast (Hp.mul_assoc ..)
    · rw [hb1]; exact H.cast (Hp.mul_assoc ..).symm
theorem way_val (ms : Ws) (k : Sm × Sm) : ((getM ms k).map vW).getD (.slice none 0 0) = ((getM ms k).getD zRv).v := by cases getM ms k <;> rfl
theorem way_xs {L : Nat} {ms : Ws} {q : Wy} (h : WayOk L ms q) (k : Sm × Sm) : ((getM ms k).getD zRv).xs = q k := by
  rw [← h.eq k]; unfold qof; cases getM ms k <;> rfl
theorem cmp_b (a b : Int) {w : World} : Calls Try.prog 20 #[.int .i64 a, .int .i64 b] w fun e w' => e = .returned (.int .i64 (cmpI a b)) ∧ Below w.heap.size w w' := (compare_any a b w).mono fun e w' ⟨he, hw⟩ => ⟨he, by rw [← hw]; exact Below.refl _ _⟩
theorem or_b {a b : Int} {W w : World} {g cap : Nat} {R : Hp} (H : Sat W w (Hp.rec_ g [.int .i64 a, .int .i64 b] * R)) : Calls Try.prog 19 #[.slice (some ⟨g, 0, none⟩) 2 cap] w fun e w' => e = .returned (.int .i64 (if a = 0 then b else a)) ∧ Below w.heap.size w w' :=
  (or_two a b g cap w (H.cell 0 rfl) (H.cell 1 rfl)).mono fun e w' ⟨he, hw⟩ => ⟨he, by rw [← hw]; exact Below.refl _ _⟩
theorem smN_self (i : Sm) : smN i.val = i := Fin.ext (Nat.mod_eq_of_lt i.isLt)
theorem take_none {W w : World} {S L : Nat} {i frm : Sm} {s : MS} {p : Pq} {R : Hp} (hp : s.ps[i.val]? = some p) (hn : s.ps.length ≤ 6) (hi : s.ins.length ≤ 10000) (hpn : p.n ≤ 10000) (hpy : p.yes ≤ 10000) (hL : L ≤ 50000) (h0 : s.q (frm, i) = []) (H : Sat W w (worldH S L s * R)) :
    Calls Try.prog 15 #[ptr S 0, .int .i64 ((i.val : Nat) : Int), .int .i64 ((frm.val : Nat) : Int)] w (Ret W fun v l => v = .int .i64 5 ∧ sep l = worldH S L (takeM s i.val frm.val).2 * R) := by
  obtain ⟨pv, mb, iv, pms, m, R0, hmap, hk, hmp, hb, H⟩ := worldH.openF hp H
  have hkb : (pms.map Pm.b)[i.val]? = some m.b := by rw [List.getElem?_map, hk]; rfl
  have hkl := (List.getElem?_eq_some_iff.1 hk).1
  have hbl : (pms.map Pm.b).length = s.ps.length := by rw [← hmap, List.length_map, List.length_map]
  subst hmp
  have hi6 := (List.getElem?_eq_some_iff.1 hp).1
  obtain ⟨ms, hok, H⟩ : ∃ ms, WayOk L ms s.q ∧ Sat W w (sep [Hp.rec_ S [pv, .map (some mb), iv], Hp.own FP 1 pv (pms.map Pm.b), recP m, Hp.own FN 1 m.v m.p.waits, R0, mapW mb ms, Hp.big rowH ms, Hp.own FN 1 iv s.ins, R]) := by
    obtain ⟨ms, hok, H2⟩ := wayH.open_ (H.at_ (k := 5) rfl)
    exact ⟨ms, hok, H2.cast (by show mapW mb ms * (Hp.big rowH ms * (Hp.rec_ S _ * (_ * (_ * (_ * (R0 * (_ * (R * 1)))))))) = Hp.rec_ S _ * (_ * (_ * (_ * (R0 * (mapW mb ms * (Hp.big rowH ms * (_ * (R * 1)))))))); ac_rfl)⟩
  obtain ⟨R1, hw1, hw2, hw3⟩ := way_focus ms (frm, i)
  have hrx := way_xs hok (frm, i)
  obtain ⟨r, hr⟩ : ∃ r, r = (getM ms (frm, i)).getD zRv := ⟨_, rfl⟩
  rw [← hr] at hw1 hw3 hrx
  have H := hw1 (H.at_ (k := 6) rfl)
  have H : Sat W w (sep [Hp.rec_ S [pv, .map (some mb), iv], Hp.own FP 1 pv (pms.map Pm.b), recP m, Hp.own FN 1 m.v m.p.waits, R0, mapW mb ms, Hp.own FN 1 r.v r.xs, R1, Hp.own FN 1 iv s.ins, R]) :=
    H.cast (by show Hp.own FN 1 r.v r.xs * (R1 * (Hp.rec_ S _ * (_ * (_ * (_ * (R0 * (mapW mb ms * (_ * (R * 1))))))))) = Hp.rec_ S _ * (_ * (_ * (_ * (R0 * (mapW mb ms * (Hp.own FN 1 r.v r.xs * (R1 * (_ * (R * 1))))))))); ac_rfl)
  refine Gx.enter (l := [Hp.rec_ S [pv, .map (some mb), iv], Hp.own FP 1 pv (pms.map Pm.b), Hp.rec_ m.b [.int .i64 ((m.p.n : Nat) : Int), .int .i64 ((m.p.how : Nat) : Int), .int .i64 ((m.p.key : Nat) : Int), m.v, .int .i64 ((m.p.yes : Nat) : Int)], Hp.own FN 1 m.v m.p.waits, R0, Hp.map Try.prog 48 pairL vW mb ms, Hp.own FN 1 r.v r.xs, R1, Hp.own FN 1 iv s.ins, R]) Try.func15 rfl Try.ntmps15 rfl (H) ?_
  refine Gx.know (m' := [(0, ptr S 0), (1, .int .i64 ((i.val : Nat) : Int)), (2, .int .i64 ((frm.val : Nat) : Int))]) (.cons rfl (.cons rfl (.cons rfl .nil))) ?_
  refine Gx.seq ?_
  refine Gx.region ?_
  refine Gx.val rfl rfl rfl (val_assign rfl rfl) ?_
  refine Gx.done ?_
  refine Gx.thenN ?_
  refine Gx.seq ?_
  refine Gx.region ?_
  refine Gx.val rfl rfl rfl (val_move rfl rfl) ?_
  refine Gx.val rfl rfl rfl (val_move rfl rfl) ?_
  refine Gx.val rfl rfl rfl (val_build rfl (qs := [(0, .int .i64 ((frm.val : Nat) : Int)), (1, .int .i64 ((i.val : Nat) : Int))]) rfl rfl (fun w => by go_simp) (v := .agg #[.int .i64 ((frm.val : Nat) : Int), .int .i64 ((i.val : Nat) : Int)])) ?_
  refine Gx.eff rfl rfl rfl (eff_alloc rfl Try.ty48 (vs := [.int .i64 0, .int .i64 0]) rfl) ?_
  rintro _ _ ⟨b1, rfl, rfl⟩
  refine Gx.eff0 rfl rfl (eff_store rfl Try.ty48 rfl rfl (us := [.int .i64 ((frm.val : Nat) : Int), .int .i64 ((i.val : Nat) : Int)]) rfl rfl rfl (k := 0) rfl (rfl) (vs' := [.int .i64 ((frm.val : Nat) : Int), .int .i64 ((i.val : Nat) : Int)]) (rfl) (l' := [Hp.rec_ b1 [.int .i64 ((frm.val : Nat) : Int), .int .i64 ((i.val : Nat) : Int)], Hp.rec_ S [pv, .map (some mb), iv], Hp.own FP 1 pv (pms.map Pm.b), Hp.rec_ m.b [.int .i64 ((m.p.n : Nat) : Int), .int .i64 ((m.p.how : Nat) : Int), .int .i64 ((m.p.key : Nat) : Int), m.v, .int .i64 ((m.p.yes : Nat) : Int)], Hp.own FN 1 m.v m.p.waits, R0, Hp.map Try.prog 48 pairL vW mb ms, Hp.own FN 1 r.v r.xs, R1, Hp.own FN 1 iv s.ins, R]) rfl) ?_
  rintro _ _ rfl
  refine Gx.done ?_
  refine Gx.thenN ?_
  refine Gx.seq ?_
  refine Gx.seq ?_
  refine Gx.regionQ Try.mixed (by kernel_rfl) ?_
  refine Gq.val rfl rfl rfl (val_move rfl rfl) ?_
  refine Gq.val rfl rfl rfl (val_nilCheck rfl rfl) ?_
  refine Gq.val rfl rfl rfl (Val.cast (val_fieldAddr rfl Try.underlying43 rfl Try.ty40 rfl rfl) (v' := ptr S 1) rfl) ?_
  refine Gq.val rfl rfl rfl (val_load rfl Try.ty40 rfl rfl (cell_rec (k := 1) rfl rfl)) ?_
  refine Gq.val rfl rfl rfl (Val.cast (val_loadA rfl Try.ty48 rfl rfl rfl (cells_rec (k := 0) rfl)) (v' := .agg #[.int .i64 ((frm.val : Nat) : Int), .int .i64 ((i.val : Nat) : Int)]) rfl) ?_
  refine Gq.val rfl rfl rfl (val_lookup1 rfl Try.underlying40 Try.kL Try.ty24 rfl rfl (i := (frm, i)) (trivial) (k := 6) rfl (r := r.v) (by rw [way_val, hr])) ?_
  refine Gq.val rfl rfl rfl (val_len rfl Try.underlying24 rfl (len_own (k := 7) rfl)) ?_
  refine Gq.val rfl rfl rfl (val_eql rfl rfl rfl) ?_
  refine Gq.done ?_
  refine Gx.thenN ?_
  refine Gx.decT rfl (by rw [hrx, h0]; rfl) ?_
  refine Gx.seq ?_
  refine Gx.region ?_
  refine Gx.val rfl rfl rfl (val_assign rfl rfl) ?_
  refine Gx.done ?_
  refine Gx.thenN ?_
  refine Gx.ret ?_
  refine Gx.thenR ?_
  refine Gx.front 8 rfl ?_
  refine Gx.front 8 rfl ?_
  refine Gx.front 8 rfl ?_
  refine Gx.sat (l' := [wayH L mb s.q, Hp.rec_ b1 [.int .i64 ((frm.val : Nat) : Int), .int .i64 ((i.val : Nat) : Int)], Hp.rec_ S [pv, .map (some mb), iv], Hp.own FP 1 pv (pms.map Pm.b), Hp.rec_ m.b [.int .i64 ((m.p.n : Nat) : Int), .int .i64 ((m.p.how : Nat) : Int), .int .i64 ((m.p.key : Nat) : Int), m.v, .int .i64 ((m.p.yes : Nat) : Int)], Hp.own FN 1 m.v m.p.waits, R0, Hp.own FN 1 iv s.ins, R]) (fun w H => wayH.shut (R := sep [Hp.rec_ b1 [.int .i64 ((frm.val : Nat) : Int), .int .i64 ((i.val : Nat) : Int)], Hp.rec_ S [pv, .map (some mb), iv], Hp.own FP 1 pv (pms.map Pm.b), Hp.rec_ m.b [.int .i64 ((m.p.n : Nat) : Int), .int .i64 ((m.p.how : Nat) : Int), .int .i64 ((m.p.key : Nat) : Int), m.v, .int .i64 ((m.p.yes : Nat) : Int)], Hp.own FN 1 m.v m.p.waits, R0, Hp.own FN 1 iv s.ins, R]) hok ((hw3 (R := mapW mb ms * sep [Hp.rec_ b1 [.int .i64 ((frm.val : Nat) : Int), .int .i64 ((i.val : Nat) : Int)], Hp.rec_ S [pv, .map (some mb), iv], Hp.own FP 1 pv (pms.map Pm.b), Hp.rec_ m.b [.int .i64 ((m.p.n : Nat) : Int), .int .i64 ((m.p.how : Nat) : Int), .int .i64 ((m.p.key : Nat) : Int), m.v, .int .i64 ((m.p.yes : Nat) : Int)], Hp.own FN 1 m.v m.p.waits, R0, Hp.own FN 1 iv s.ins, R]) (H.cast (by show mapW mb ms * (Hp.own FN 1 r.v r.xs * (R1 * sep [Hp.rec_ b1 [.int .i64 ((frm.val : Nat) : Int), .int .i64 ((i.val : Nat) : Int)], Hp.rec_ S [pv, .map (some mb), iv], Hp.own FP 1 pv (pms.map Pm.b), Hp.rec_ m.b [.int .i64 ((m.p.n : Nat) : Int), .int .i64 ((m.p.how : Nat) : Int), .int .i64 ((m.p.key : Nat) : Int), m.v, .int .i64 ((m.p.yes : Nat) : Int)], Hp.own FN 1 m.v m.p.waits, R0, Hp.own FN 1 iv s.ins, R])) = Hp.own FN 1 r.v r.xs * (R1 * (mapW mb ms * sep [Hp.rec_ b1 [.int .i64 ((frm.val : Nat) : Int), .int .i64 ((i.val : Nat) : Int)], Hp.rec_ S [pv, .map (some mb), iv], Hp.own FP 1 pv (pms.map Pm.b), Hp.rec_ m.b [.int .i64 ((m.p.n : Nat) : Int), .int .i64 ((m.p.how : Nat) : Int), .int .i64 ((m.p.key : Nat) : Int), m.v, .int .i64 ((m.p.yes : Nat) : Int)], Hp.own FN 1 m.v m.p.waits, R0, Hp.own FN 1 iv s.ins, R])); ac_rfl))).cast (by ac_rfl))) ?_
  refine Gx.drop 1 rfl ?_
  refine Gx.front 7 rfl ?_
  refine Gx.front 7 rfl ?_
  refine Gx.front 2 rfl ?_
  refine Gx.front 7 rfl ?_
  refine Gx.front 7 rfl ?_
  refine Gx.front 7 rfl ?_
  refine Gx.front 7 rfl ?_
  refine Gx.front 7 rfl ?_
  refine Gx.norm (l' := [Hp.rec_ S [pv, .map (some mb), iv], Hp.own FP 1 pv (pms.map Pm.b), Hp.rec_ m.b [.int .i64 ((m.p.n : Nat) : Int), .int .i64 ((m.p.how : Nat) : Int), .int .i64 ((m.p.key : Nat) : Int), m.v, .int .i64 ((m.p.yes : Nat) : Int)], Hp.own FN 1 m.v m.p.waits, R0, wayH L mb s.q, Hp.own FN 1 iv s.ins, R]) rfl ?_
  refine Gx.sat (l' := [worldH S L s, R]) (fun w H => worldH.shutF (s' := s) hk hb (⟨m.b, m.v, ⟨m.p.n, m.p.how, m.p.key, m.p.yes, m.p.waits⟩⟩ : Pm) rfl (by rw [hmap] <;> first | rfl | (simp; done) | (exact (List.set_getElem?_self' hp).symm)) H) ?_
  refine Gx.ret1 Try.results15 rfl ?_
  refine ⟨rfl, ?_⟩
  rw [sep1]
  unfold takeM
  rw [smN_self, smN_self, h0]

theorem take_yes {W w : World} {S L x : Nat} {i frm : Sm} {s : MS} {p : Pq} {lr : List Nat} {R : Hp} (hp : s.ps[i.val]? = some p) (hn : s.ps.length ≤ 6) (hi : s.ins.length ≤ 10000) (hpn : p.n ≤ 10000) (hpy : p.yes ≤ 10000) (hL : L ≤ 50000) (h0 : s.q (frm, i) = x :: lr) (hx9 : x = 0) (H : Sat W w (worldH S L s * R)) :
    Calls Try.prog 15 #[ptr S 0, .int .i64 ((i.val : Nat) : Int), .int .i64 ((frm.val : Nat) : Int)] w (Ret W fun v l => v = .int .i64 0 ∧ sep l = worldH S (L + 1) (takeM s i.val frm.val).2 * R) := by
  obtain ⟨pv, mb, iv, pms, m, R0, hmap, hk, hmp, hb, H⟩ := worldH.openF hp H
  have hkb : (pms.map Pm.b)[i.val]? = some m.b := by rw [List.getElem?_map, hk]; rfl
  have hkl := (List.getElem?_eq_some_iff.1 hk).1
  have hbl : (pms.map Pm.b).length = s.ps.length := by rw [← hmap, List.length_map, List.length_map]
  subst hmp
  have hi6 := (List.getElem?_eq_some_iff.1 hp).1
  obtain ⟨ms, hok, H⟩ : ∃ ms, WayOk L ms s.q ∧ Sat W w (sep [Hp.rec_ S [pv, .map (some mb), iv], Hp.own FP 1 pv (pms.map Pm.b), recP m, Hp.own FN 1 m.v m.p.waits, R0, mapW mb ms, Hp.big rowH ms, Hp.own FN 1 iv s.ins, R]) := by
    obtain ⟨ms, hok, H2⟩ := wayH.open_ (H.at_ (k := 5) rfl)
    exact ⟨ms, hok, H2.cast (by show mapW mb ms * (Hp.big rowH ms * (Hp.rec_ S _ * (_ * (_ * (_ * (R0 * (_ * (R * 1)))))))) = Hp.rec_ S _ * (_ * (_ * (_ * (R0 * (mapW mb ms * (Hp.big rowH ms * (_ * (R * 1)))))))); ac_rfl)⟩
  obtain ⟨R1, hw1, hw2, hw3⟩ := way_focus ms (frm, i)
  have hrx := way_xs hok (frm, i)
  obtain ⟨r, hr⟩ : ∃ r, r = (getM ms (frm, i)).getD zRv := ⟨_, rfl⟩
  rw [← hr] at hw1 hw3 hrx
  have H := hw1 (H.at_ (k := 6) rfl)
  have H : Sat W w (sep [Hp.rec_ S [pv, .map (some mb), iv], Hp.own FP 1 pv (pms.map Pm.b), recP m, Hp.own FN 1 m.v m.p.waits, R0, mapW mb ms, Hp.own FN 1 r.v r.xs, R1, Hp.own FN 1 iv s.ins, R]) :=
    H.cast (by show Hp.own FN 1 r.v r.xs * (R1 * (Hp.rec_ S _ * (_ * (_ * (_ * (R0 * (mapW mb ms * (_ * (R * 1))))))))) = Hp.rec_ S _ * (_ * (_ * (_ * (R0 * (mapW mb ms * (Hp.own FN 1 r.v r.xs * (R1 * (_ * (R * 1))))))))); ac_rfl)
  have hx0 : r.xs[0]? = some x := by rw [hrx, h0]; rfl
  have hlr : r.xs = x :: lr := by rw [hrx, h0]
  refine Gx.enter (l := [Hp.rec_ S [pv, .map (some mb), iv], Hp.own FP 1 pv (pms.map Pm.b), Hp.rec_ m.b [.int .i64 ((m.p.n : Nat) : Int), .int .i64 ((m.p.how : Nat) : Int), .int .i64 ((m.p.key : Nat) : Int), m.v, .int .i64 ((m.p.yes : Nat) : Int)], Hp.own FN 1 m.v m.p.waits, R0, Hp.map Try.prog 48 pairL vW mb ms, Hp.own FN 1 r.v r.xs, R1, Hp.own FN 1 iv s.ins, R]) Try.func15 rfl Try.ntmps15 rfl (H) ?_
  refine Gx.know (m' := [(0, ptr S 0), (1, .int .i64 ((i.val : Nat) : Int)), (2, .int .i64 ((frm.val : Nat) : Int))]) (.cons rfl (.cons rfl (.cons rfl .nil))) ?_
  refine Gx.seq ?_
  refine Gx.region ?_
  refine Gx.val rfl rfl rfl (val_assign rfl rfl) ?_
  refine Gx.done ?_
  refine Gx.thenN ?_
  refine Gx.seq ?_
  refine Gx.region ?_
  refine Gx.val rfl rfl rfl (val_move rfl rfl) ?_
  refine Gx.val rfl rfl rfl (val_move rfl rfl) ?_
  refine Gx.val rfl rfl rfl (val_build rfl (qs := [(0, .int .i64 ((frm.val : Nat) : Int)), (1, .int .i64 ((i.val : Nat) : Int))]) rfl rfl (fun w => by go_simp) (v := .agg #[.int .i64 ((frm.val : Nat) : Int), .int .i64 ((i.val : Nat) : Int)])) ?_
  refine Gx.eff rfl rfl rfl (eff_alloc rfl Try.ty48 (vs := [.int .i64 0, .int .i64 0]) rfl) ?_
  rintro _ _ ⟨b1, rfl, rfl⟩
  refine Gx.eff0 rfl rfl (eff_store rfl Try.ty48 rfl rfl (us := [.int .i64 ((frm.val : Nat) : Int), .int .i64 ((i.val : Nat) : Int)]) rfl rfl rfl (k := 0) rfl (rfl) (vs' := [.int .i64 ((frm.val : Nat) : Int), .int .i64 ((i.val : Nat) : Int)]) (rfl) (l' := [Hp.rec_ b1 [.int .i64 ((frm.val : Nat) : Int), .int .i64 ((i.val : Nat) : Int)], Hp.rec_ S [pv, .map (some mb), iv], Hp.own FP 1 pv (pms.map Pm.b), Hp.rec_ m.b [.int .i64 ((m.p.n : Nat) : Int), .int .i64 ((m.p.how : Nat) : Int), .int .i64 ((m.p.key : Nat) : Int), m.v, .int .i64 ((m.p.yes : Nat) : Int)], Hp.own FN 1 m.v m.p.waits, R0, Hp.map Try.prog 48 pairL vW mb ms, Hp.own FN 1 r.v r.xs, R1, Hp.own FN 1 iv s.ins, R]) rfl) ?_
  rintro _ _ rfl
  refine Gx.done ?_
  refine Gx.thenN ?_
  refine Gx.seq ?_
  refine Gx.seq ?_
  refine Gx.regionQ Try.mixed (by kernel_rfl) ?_
  refine Gq.val rfl rfl rfl (val_move rfl rfl) ?_
  refine Gq.val rfl rfl rfl (val_nilCheck rfl rfl) ?_
  refine Gq.val rfl rfl rfl (Val.cast (val_fieldAddr rfl Try.underlying43 rfl Try.ty40 rfl rfl) (v' := ptr S 1) rfl) ?_
  refine Gq.val rfl rfl rfl (val_load rfl Try.ty40 rfl rfl (cell_rec (k := 1) rfl rfl)) ?_
  refine Gq.val rfl rfl rfl (Val.cast (val_loadA rfl Try.ty48 rfl rfl rfl (cells_rec (k := 0) rfl)) (v' := .agg #[.int .i64 ((frm.val : Nat) : Int), .int .i64 ((i.val : Nat) : Int)]) rfl) ?_
  refine Gq.val rfl rfl rfl (val_lookup1 rfl Try.underlying40 Try.kL Try.ty24 rfl rfl (i := (frm, i)) (trivial) (k := 6) rfl (r := r.v) (by rw [way_val, hr])) ?_
  refine Gq.val rfl rfl rfl (val_len rfl Try.underlying24 rfl (len_own (k := 7) rfl)) ?_
  refine Gq.val rfl rfl rfl (val_eql rfl rfl rfl) ?_
  refine Gq.done ?_
  refine Gx.thenN ?_
  refine Gx.decF rfl (by rw [hlr]; simp; omega) ?_
  refine Gx.skip ?_
  refine Gx.thenN ?_
  refine Gx.seq ?_
  refine Gx.regionQ Try.mixed (by kernel_rfl) ?_
  refine Gq.val rfl rfl rfl (val_move rfl rfl) ?_
  refine Gq.val rfl rfl rfl (val_nilCheck rfl rfl) ?_
  refine Gq.val rfl rfl rfl (Val.cast (val_fieldAddr rfl Try.underlying43 rfl Try.ty40 rfl rfl) (v' := ptr S 1) rfl) ?_
  refine Gq.val rfl rfl rfl (val_load rfl Try.ty40 rfl rfl (cell_rec (k := 1) rfl rfl)) ?_
  refine Gq.val rfl rfl rfl (Val.cast (val_loadA rfl Try.ty48 rfl rfl rfl (cells_rec (k := 0) rfl)) (v' := .agg #[.int .i64 ((frm.val : Nat) : Int), .int .i64 ((i.val : Nat) : Int)]) rfl) ?_
  refine Gq.val rfl rfl rfl (val_lookup1 rfl Try.underlying40 Try.kL Try.ty24 rfl rfl (i := (frm, i)) (trivial) (k := 6) rfl (r := r.v) (by rw [way_val, hr])) ?_
  refine Gq.val rfl rfl rfl (val_ixa rfl Try.underlying24 Try.ty3 rfl rfl (j := 0) (rfl) (reach_own (k := 7) rfl hx0)) ?_
  refine Gq.val rfl rfl rfl (val_load rfl Try.ty3 rfl rfl (cell_own (i := 0) (sz := 1) (j := 0) (k := 7) rfl hx0 rfl)) ?_
  refine Gq.val rfl rfl rfl (val_assign rfl rfl) ?_
  refine Gq.done ?_
  refine Gx.thenN ?_
  refine Gx.seq ?_
  refine Gx.regionO (fun j => false) 12 [0, 1, 2, 3, 4, 5, 6, 7, 8, 9, 10, 11] (fun _ => [Hp.rec_ b1 [.int .i64 ((frm.val : Nat) : Int), .int .i64 ((i.val : Nat) : Int)], Hp.rec_ S [pv, .map (some mb), iv], Hp.own FP 1 pv (pms.map Pm.b), Hp.rec_ m.b [.int .i64 ((m.p.n : Nat) : Int), .int .i64 ((m.p.how : Nat) : Int), .int .i64 ((m.p.key : Nat) : Int), m.v, .int .i64 ((m.p.yes : Nat) : Int)], Hp.own FN 1 m.v m.p.waits, R0, Hp.map Try.prog 48 pairL vW mb ms, Hp.own FN 1 r.v r.xs, R1, Hp.own FN 1 iv s.ins, R]) Try.mixed (by kernel_rfl) rfl ?_
  refine Gw.val rfl rfl rfl rfl rfl (fun us => val_move rfl rfl) ?_
  refine Gw.val rfl rfl rfl rfl rfl (fun us => val_nilCheck rfl rfl) ?_
  refine Gw.val rfl rfl rfl rfl rfl (fun us => Val.cast (val_fieldAddr rfl Try.underlying43 rfl Try.ty40 rfl rfl) (v' := ptr S 1) rfl) ?_
  refine Gw.val0 rfl rfl rfl (by kernel_rfl) rfl rfl (val_load rfl Try.ty40 rfl rfl (cell_rec (k := 1) rfl rfl)) ?_
  refine Gw.val0 rfl rfl rfl (by kernel_rfl) rfl rfl (Val.cast (val_loadA rfl Try.ty48 rfl rfl rfl (cells_rec (k := 0) rfl)) (v' := .agg #[.int .i64 ((frm.val : Nat) : Int), .int .i64 ((i.val : Nat) : Int)]) rfl) ?_
  refine Gw.val rfl rfl rfl rfl rfl (fun us => val_move rfl rfl) ?_
  refine Gw.val rfl rfl rfl rfl rfl (fun us => val_nilCheck rfl rfl) ?_
  refine Gw.val rfl rfl rfl rfl rfl (fun us => Val.cast (val_fieldAddr rfl Try.underlying43 rfl Try.ty40 rfl rfl) (v' := ptr S 1) rfl) ?_
  refine Gw.val0 rfl rfl rfl (by kernel_rfl) rfl rfl (val_load rfl Try.ty40 rfl rfl (cell_rec (k := 1) rfl rfl)) ?_
  refine Gw.val0 rfl rfl rfl (by kernel_rfl) rfl rfl (Val.cast (val_loadA rfl Try.ty48 rfl rfl rfl (cells_rec (k := 0) rfl)) (v' := .agg #[.int .i64 ((frm.val : Nat) : Int), .int .i64 ((i.val : Nat) : Int)]) rfl) ?_
  refine Gw.val0 rfl rfl rfl (by kernel_rfl) rfl rfl (val_lookup1 rfl Try.underlying40 Try.kL Try.ty24 rfl rfl (i := (frm, i)) (trivial) (k := 6) rfl (r := r.v) (by rw [way_val, hr])) ?_
  refine Gw.val rfl rfl rfl rfl rfl (fun us => val_cutFromO (lo := 1) rfl Try.underlying24 Try.ty3 rfl (n := 7) rfl rfl (rfl) (by rw [hlr]; simp)) ?_
  refine Gw.done ?_
  refine Gx.norm (l' := [Hp.rec_ b1 [.int .i64 ((frm.val : Nat) : Int), .int .i64 ((i.val : Nat) : Int)], Hp.rec_ S [pv, .map (some mb), iv], Hp.own FP 1 pv (pms.map Pm.b), Hp.rec_ m.b [.int .i64 ((m.p.n : Nat) : Int), .int .i64 ((m.p.how : Nat) : Int), .int .i64 ((m.p.key : Nat) : Int), m.v, .int .i64 ((m.p.yes : Nat) : Int)], Hp.own FN 1 m.v m.p.waits, R0, Hp.map Try.prog 48 pairL vW mb ms, Hp.own FN 1 r.v r.xs, R1, Hp.own FN 1 iv s.ins, R]) rfl ?_
  refine Gx.eff0 rfl rfl (eff_mapUpdate (vf := vW) rfl Try.underlying40 Try.kL pairK rfl rfl rfl (i := (frm, i)) (r := (⟨sCut 1 1 r.xs.length r.v, lr⟩ : Rv)) (trivial) (k := 6) rfl (by have := hok.len; unfold maxLen; omega) (l' := [Hp.rec_ b1 [.int .i64 ((frm.val : Nat) : Int), .int .i64 ((i.val : Nat) : Int)], Hp.rec_ S [pv, .map (some mb), iv], Hp.own FP 1 pv (pms.map Pm.b), Hp.rec_ m.b [.int .i64 ((m.p.n : Nat) : Int), .int .i64 ((m.p.how : Nat) : Int), .int .i64 ((m.p.key : Nat) : Int), m.v, .int .i64 ((m.p.yes : Nat) : Int)], Hp.own FN 1 m.v m.p.waits, R0, Hp.map Try.prog 48 pairL vW mb (putM ms (frm, i) (⟨sCut 1 1 r.xs.length r.v, lr⟩ : Rv)), Hp.own FN 1 r.v r.xs, R1, Hp.own FN 1 iv s.ins, R]) rfl) ?_
  rintro _ _ rfl
  refine Gx.done ?_
  refine Gx.thenN ?_
  refine Gx.seq ?_
  refine Gx.ownCut (k := 7) 1 r.xs.length rfl (by rw [hlr]; simp) (Nat.le_refl _) (l' := [Hp.rec_ b1 [.int .i64 ((frm.val : Nat) : Int), .int .i64 ((i.val : Nat) : Int)], Hp.rec_ S [pv, .map (some mb), iv], Hp.own FP 1 pv (pms.map Pm.b), Hp.rec_ m.b [.int .i64 ((m.p.n : Nat) : Int), .int .i64 ((m.p.how : Nat) : Int), .int .i64 ((m.p.key : Nat) : Int), m.v, .int .i64 ((m.p.yes : Nat) : Int)], Hp.own FN 1 m.v m.p.waits, R0, Hp.map Try.prog 48 pairL vW mb (putM ms (frm, i) (⟨sCut 1 1 r.xs.length r.v, lr⟩ : Rv)), Hp.own FN 1 (sCut 1 1 r.xs.length r.v) lr, R1, Hp.own FN 1 iv s.ins, R]) (by rw [show (List.take r.xs.length r.xs).drop 1 = lr from by rw [List.take_length, hlr]; rfl] <;> rfl) ?_
  refine Gx.front 8 rfl ?_
  refine Gx.front 8 rfl ?_
  refine Gx.front 8 rfl ?_
  refine Gx.sat (l' := [wayH (L + 1) mb (upW s.q (frm, i) lr), Hp.rec_ b1 [.int .i64 ((frm.val : Nat) : Int), .int .i64 ((i.val : Nat) : Int)], Hp.rec_ S [pv, .map (some mb), iv], Hp.own FP 1 pv (pms.map Pm.b), Hp.rec_ m.b [.int .i64 ((m.p.n : Nat) : Int), .int .i64 ((m.p.how : Nat) : Int), .int .i64 ((m.p.key : Nat) : Int), m.v, .int .i64 ((m.p.yes : Nat) : Int)], Hp.own FN 1 m.v m.p.waits, R0, Hp.own FN 1 iv s.ins, R]) (fun w H => wayH.shut (R := sep [Hp.rec_ b1 [.int .i64 ((frm.val : Nat) : Int), .int .i64 ((i.val : Nat) : Int)], Hp.rec_ S [pv, .map (some mb), iv], Hp.own FP 1 pv (pms.map Pm.b), Hp.rec_ m.b [.int .i64 ((m.p.n : Nat) : Int), .int .i64 ((m.p.how : Nat) : Int), .int .i64 ((m.p.key : Nat) : Int), m.v, .int .i64 ((m.p.yes : Nat) : Int)], Hp.own FN 1 m.v m.p.waits, R0, Hp.own FN 1 iv s.ins, R]) (hok.put (frm, i) (r := ⟨sCut 1 1 r.xs.length r.v, lr⟩) (by rw [← hrx, hlr]; simp; omega)) (H.cast (by rw [hw2]; show mapW mb (putM ms (frm, i) (⟨sCut 1 1 r.xs.length r.v, lr⟩ : Rv)) * (Hp.own FN 1 (sCut 1 1 r.xs.length r.v) lr * (R1 * sep [Hp.rec_ b1 [.int .i64 ((frm.val : Nat) : Int), .int .i64 ((i.val : Nat) : Int)], Hp.rec_ S [pv, .map (some mb), iv], Hp.own FP 1 pv (pms.map Pm.b), Hp.rec_ m.b [.int .i64 ((m.p.n : Nat) : Int), .int .i64 ((m.p.how : Nat) : Int), .int .i64 ((m.p.key : Nat) : Int), m.v, .int .i64 ((m.p.yes : Nat) : Int)], Hp.own FN 1 m.v m.p.waits, R0, Hp.own FN 1 iv s.ins, R])) = mapW mb (putM ms (frm, i) (⟨sCut 1 1 r.xs.length r.v, lr⟩ : Rv)) * ((Hp.own FN 1 (sCut 1 1 r.xs.length r.v) lr * R1) * sep [Hp.rec_ b1 [.int .i64 ((frm.val : Nat) : Int), .int .i64 ((i.val : Nat) : Int)], Hp.rec_ S [pv, .map (some mb), iv], Hp.own FP 1 pv (pms.map Pm.b), Hp.rec_ m.b [.int .i64 ((m.p.n : Nat) : Int), .int .i64 ((m.p.how : Nat) : Int), .int .i64 ((m.p.key : Nat) : Int), m.v, .int .i64 ((m.p.yes : Nat) : Int)], Hp.own FN 1 m.v m.p.waits, R0, Hp.own FN 1 iv s.ins, R]); ac_rfl))) ?_
  refine Gx.region ?_
  refine Gx.val rfl rfl rfl (val_move rfl rfl) ?_
  refine Gx.val rfl rfl rfl (val_nilCheck rfl rfl) ?_
  refine Gx.val rfl rfl rfl (Val.cast (val_fieldAddr rfl Try.underlying43 rfl Try.ty41 rfl rfl) (v' := ptr S 0) rfl) ?_
  refine Gx.val rfl rfl rfl (val_load rfl Try.ty41 rfl rfl (cell_rec (k := 2) rfl rfl)) ?_
  refine Gx.val rfl rfl rfl (val_move rfl rfl) ?_
  refine Gx.val rfl rfl rfl (val_ixa rfl Try.underlying41 Try.ty44 rfl rfl (j := i.val) (rfl) (reach_own (k := 3) rfl hkb)) ?_
  refine Gx.val rfl rfl rfl (val_load rfl Try.ty44 rfl rfl (cell_own (i := 0) (k := 3) rfl hkb rfl)) ?_
  refine Gx.val rfl rfl rfl (val_assign rfl rfl) ?_
  refine Gx.done ?_
  refine Gx.thenN ?_
  refine Gx.seq ?_
  refine Gx.seq ?_
  refine Gx.region ?_
  refine Gx.val rfl rfl rfl (val_move rfl rfl) ?_
  refine Gx.val rfl rfl rfl (val_eql rfl rfl rfl) ?_
  refine Gx.done ?_
  refine Gx.thenN ?_
  refine Gx.decT rfl (by omega) ?_
  refine Gx.seq ?_
  refine Gx.region ?_
  refine Gx.val rfl rfl rfl (val_move rfl rfl) ?_
  refine Gx.val rfl rfl rfl (val_nilCheck rfl rfl) ?_
  refine Gx.val rfl rfl rfl (Val.cast (val_fieldAddr rfl Try.underlying46 rfl Try.ty3 rfl rfl) (v' := ptr m.b 4) rfl) ?_
  refine Gx.val rfl rfl rfl (val_load rfl Try.ty3 rfl rfl (cell_rec (k := 4) rfl rfl)) ?_
  refine Gx.val rfl rfl rfl (val_add rfl rfl rfl (r := ((m.p.yes + 1 : Nat) : Int)) (w64 (by omega) (by omega))) ?_
  refine Gx.val rfl rfl rfl (val_nilCheck rfl rfl) ?_
  refine Gx.val rfl rfl rfl (Val.cast (val_fieldAddr rfl Try.underlying46 rfl Try.ty3 rfl rfl) (v' := ptr m.b 4) rfl) ?_
  refine Gx.eff0 rfl rfl (eff_store rfl Try.ty3 rfl rfl (us := [.int .i64 ((m.p.yes + 1 : Nat) : Int)]) rfl rfl rfl (k := 4) rfl (rfl) (vs' := [.int .i64 ((m.p.n : Nat) : Int), .int .i64 ((m.p.how : Nat) : Int), .int .i64 ((m.p.key : Nat) : Int), m.v, .int .i64 ((m.p.yes + 1 : Nat) : Int)]) (rfl) (l' := [wayH (L + 1) mb (upW s.q (frm, i) lr), Hp.rec_ b1 [.int .i64 ((frm.val : Nat) : Int), .int .i64 ((i.val : Nat) : Int)], Hp.rec_ S [pv, .map (some mb), iv], Hp.own FP 1 pv (pms.map Pm.b), Hp.rec_ m.b [.int .i64 ((m.p.n : Nat) : Int), .int .i64 ((m.p.how : Nat) : Int), .int .i64 ((m.p.key : Nat) : Int), m.v, .int .i64 ((m.p.yes + 1 : Nat) : Int)], Hp.own FN 1 m.v m.p.waits, R0, Hp.own FN 1 iv s.ins, R]) rfl) ?_
  rintro _ _ rfl
  refine Gx.done ?_
  refine Gx.thenN ?_
  refine Gx.seq ?_
  refine Gx.drop 1 rfl ?_
  refine Gx.front 7 rfl ?_
  refine Gx.front 7 rfl ?_
  refine Gx.front 2 rfl ?_
  refine Gx.front 7 rfl ?_
  refine Gx.front 7 rfl ?_
  refine Gx.front 7 rfl ?_
  refine Gx.front 7 rfl ?_
  refine Gx.front 7 rfl ?_
  refine Gx.norm (l' := [Hp.rec_ S [pv, .map (some mb), iv], Hp.own FP 1 pv (pms.map Pm.b), Hp.rec_ m.b [.int .i64 ((m.p.n : Nat) : Int), .int .i64 ((m.p.how : Nat) : Int), .int .i64 ((m.p.key : Nat) : Int), m.v, .int .i64 ((m.p.yes + 1 : Nat) : Int)], Hp.own FN 1 m.v m.p.waits, R0, wayH (L + 1) mb (upW s.q (frm, i) lr), Hp.own FN 1 iv s.ins, R]) rfl ?_
  refine Gx.sat (l' := [worldH S (L + 1) ({ s with q := upW s.q (frm, i) lr, ps := s.ps.set i.val { m.p with yes := m.p.yes + 1 } }), R]) (fun w H => worldH.shutF (s' := { s with q := upW s.q (frm, i) lr, ps := s.ps.set i.val { m.p with yes := m.p.yes + 1 } }) hk hb (⟨m.b, m.v, ⟨m.p.n, m.p.how, m.p.key, m.p.yes + 1, m.p.waits⟩⟩ : Pm) rfl (by rw [hmap] <;> first | rfl | (simp; done) | (exact (List.set_getElem?_self' hp).symm)) H) ?_
  refine Gx.region ?_
  refine Gx.val rfl rfl rfl (val_move rfl rfl) ?_
  refine Gx.val rfl rfl rfl (val_move rfl rfl) ?_
  refine Gx.eff rfl rfl rfl (eff_call (vs := [ptr S 0, .int .i64 ((i.val : Nat) : Int)]) rfl Try.fn18 rfl (fun w H => enter_any (s := { s with q := upW s.q (frm, i) lr, ps := s.ps.set i.val { m.p with yes := m.p.yes + 1 } }) (p := { m.p with yes := m.p.yes + 1 }) (i := i.val) (List.getElem?_set_self (List.getElem?_eq_some_iff.1 hp).1) (by rw [List.length_set]; exact hn) (by dsimp only; omega) (by dsimp only; omega) (H.at_ (k := 0) rfl))) ?_
  rintro _ l2 ⟨rfl, hl2⟩
  refine Gx.sepEq (l' := [worldH S (L + 1) (enterM { s with q := upW s.q (frm, i) lr, ps := s.ps.set i.val { m.p with yes := m.p.yes + 1 } } i.val), R]) hl2 ?_
  refine Gx.done ?_
  refine Gx.thenN ?_
  refine Gx.seq ?_
  refine Gx.region ?_
  refine Gx.val rfl rfl rfl (val_assign rfl rfl) ?_
  refine Gx.done ?_
  refine Gx.thenN ?_
  refine Gx.ret ?_
  refine Gx.thenR ?_
  refine Gx.ret1 Try.results15 rfl ?_
  refine ⟨rfl, ?_⟩
  rw [sep1]
  unfold takeM
  rw [smN_self, smN_self, h0]
  dsimp only
  rw [hp]
  dsimp only
  rw [if_pos hx9]

theorem take_wait {W w : World} {S L x : Nat} {i frm : Sm} {s : MS} {p : Pq} {lr : List Nat} {R : Hp} (hp : s.ps[i.val]? = some p) (hn : s.ps.length ≤ 6) (hi : s.ins.length ≤ 10000) (hpn : p.n ≤ 10000) (hpy : p.yes ≤ 10000) (hL : L ≤ 50000) (h0 : s.q (frm, i) = x :: lr) (hx9 : ¬ x = 0) (hxn : x ≤ 10000) (hpk : p.key ≤ 10000) (hpw : p.waits.length ≤ 10000) (hd : p.how = 2 ∨ (p.how = 1 ∧ mineB p.key i.val x frm.val = true)) (H : Sat W w (worldH S L s * R)) :
    Calls Try.prog 15 #[ptr S 0, .int .i64 ((i.val : Nat) : Int), .int .i64 ((frm.val : Nat) : Int)] w (Ret W fun v l => v = .int .i64 0 ∧ sep l = worldH S (L + 1) (takeM s i.val frm.val).2 * R) := by
  obtain ⟨pv, mb, iv, pms, m, R0, hmap, hk, hmp, hb, H⟩ := worldH.openF hp H
  have hkb : (pms.map Pm.b)[i.val]? = some m.b := by rw [List.getElem?_map, hk]; rfl
  have hkl := (List.getElem?_eq_some_iff.1 hk).1
  have hbl : (pms.map Pm.b).length = s.ps.length := by rw [← hmap, List.length_map, List.length_map]
  subst hmp
  have hi6 := (List.getElem?_eq_some_iff.1 hp).1
  obtain ⟨ms, hok, H⟩ : ∃ ms, WayOk L ms s.q ∧ Sat W w (sep [Hp.rec_ S [pv, .map (some mb), iv], Hp.own FP 1 pv (pms.map Pm.b), recP m, Hp.own FN 1 m.v m.p.waits, R0, mapW mb ms, Hp.big rowH ms, Hp.own FN 1 iv s.ins, R]) := by
    obtain ⟨ms, hok, H2⟩ := wayH.open_ (H.at_ (k := 5) rfl)
    exact ⟨ms, hok, H2.cast (by show mapW mb ms * (Hp.big rowH ms * (Hp.rec_ S _ * (_ * (_ * (_ * (R0 * (_ * (R * 1)))))))) = Hp.rec_ S _ * (_ * (_ * (_ * (R0 * (mapW mb ms * (Hp.big rowH ms * (_ * (R * 1)))))))); ac_rfl)⟩
  obtain ⟨R1, hw1, hw2, hw3⟩ := way_focus ms (frm, i)
  have hrx := way_xs hok (frm, i)
  obtain ⟨r, hr⟩ : ∃ r, r = (getM ms (frm, i)).getD zRv := ⟨_, rfl⟩
  rw [← hr] at hw1 hw3 hrx
  have H := hw1 (H.at_ (k := 6) rfl)
  have H : Sat W w (sep [Hp.rec_ S [pv, .map (some mb), iv], Hp.own FP 1 pv (pms.map Pm.b), recP m, Hp.own FN 1 m.v m.p.waits, R0, mapW mb ms, Hp.own FN 1 r.v r.xs, R1, Hp.own FN 1 iv s.ins, R]) :=
    H.cast (by show Hp.own FN 1 r.v r.xs * (R1 * (Hp.rec_ S _ * (_ * (_ * (_ * (R0 * (mapW mb ms * (_ * (R * 1))))))))) = Hp.rec_ S _ * (_ * (_ * (_ * (R0 * (mapW mb ms * (Hp.own FN 1 r.v r.xs * (R1 * (_ * (R * 1))))))))); ac_rfl)
  have hx0 : r.xs[0]? = some x := by rw [hrx, h0]; rfl
  have hlr : r.xs = x :: lr := by rw [hrx, h0]
  refine Gx.enter (l := [Hp.rec_ S [pv, .map (some mb), iv], Hp.own FP 1 pv (pms.map Pm.b), Hp.rec_ m.b [.int .i64 ((m.p.n : Nat) : Int), .int .i64 ((m.p.how : Nat) : Int), .int .i64 ((m.p.key : Nat) : Int), m.v, .int .i64 ((m.p.yes : Nat) : Int)], Hp.own FN 1 m.v m.p.waits, R0, Hp.map Try.prog 48 pairL vW mb ms, Hp.own FN 1 r.v r.xs, R1, Hp.own FN 1 iv s.ins, R]) Try.func15 rfl Try.ntmps15 rfl (H) ?_
  refine Gx.know (m' := [(0, ptr S 0), (1, .int .i64 ((i.val : Nat) : Int)), (2, .int .i64 ((frm.val : Nat) : Int))]) (.cons rfl (.cons rfl (.cons rfl .nil))) ?_
  refine Gx.seq ?_
  refine Gx.region ?_
  refine Gx.val rfl rfl rfl (val_assign rfl rfl) ?_
  refine Gx.done ?_
  refine Gx.thenN ?_
  refine Gx.seq ?_
  refine Gx.region ?_
  refine Gx.val rfl rfl rfl (val_move rfl rfl) ?_
  refine Gx.val rfl rfl rfl (val_move rfl rfl) ?_
  refine Gx.val rfl rfl rfl (val_build rfl (qs := [(0, .int .i64 ((frm.val : Nat) : Int)), (1, .int .i64 ((i.val : Nat) : Int))]) rfl rfl (fun w => by go_simp) (v := .agg #[.int .i64 ((frm.val : Nat) : Int), .int .i64 ((i.val : Nat) : Int)])) ?_
  refine Gx.eff rfl rfl rfl (eff_alloc rfl Try.ty48 (vs := [.int .i64 0, .int .i64 0]) rfl) ?_
  rintro _ _ ⟨b1, rfl, rfl⟩
  refine Gx.eff0 rfl rfl (eff_store rfl Try.ty48 rfl rfl (us := [.int .i64 ((frm.val : Nat) : Int), .int .i64 ((i.val : Nat) : Int)]) rfl rfl rfl (k := 0) rfl (rfl) (vs' := [.int .i64 ((frm.val : Nat) : Int), .int .i64 ((i.val : Nat) : Int)]) (rfl) (l' := [Hp.rec_ b1 [.int .i64 ((frm.val : Nat) : Int), .int .i64 ((i.val : Nat) : Int)], Hp.rec_ S [pv, .map (some mb), iv], Hp.own FP 1 pv (pms.map Pm.b), Hp.rec_ m.b [.int .i64 ((m.p.n : Nat) : Int), .int .i64 ((m.p.how : Nat) : Int), .int .i64 ((m.p.key : Nat) : Int), m.v, .int .i64 ((m.p.yes : Nat) : Int)], Hp.own FN 1 m.v m.p.waits, R0, Hp.map Try.prog 48 pairL vW mb ms, Hp.own FN 1 r.v r.xs, R1, Hp.own FN 1 iv s.ins, R]) rfl) ?_
  rintro _ _ rfl
  refine Gx.done ?_
  refine Gx.thenN ?_
  refine Gx.seq ?_
  refine Gx.seq ?_
  refine Gx.regionQ Try.mixed (by kernel_rfl) ?_
  refine Gq.val rfl rfl rfl (val_move rfl rfl) ?_
  refine Gq.val rfl rfl rfl (val_nilCheck rfl rfl) ?_
  refine Gq.val rfl rfl rfl (Val.cast (val_fieldAddr rfl Try.underlying43 rfl Try.ty40 rfl rfl) (v' := ptr S 1) rfl) ?_
  refine Gq.val rfl rfl rfl (val_load rfl Try.ty40 rfl rfl (cell_rec (k := 1) rfl rfl)) ?_
  refine Gq.val rfl rfl rfl (Val.cast (val_loadA rfl Try.ty48 rfl rfl rfl (cells_rec (k := 0) rfl)) (v' := .agg #[.int .i64 ((frm.val : Nat) : Int), .int .i64 ((i.val : Nat) : Int)]) rfl) ?_
  refine Gq.val rfl rfl rfl (val_lookup1 rfl Try.underlying40 Try.kL Try.ty24 rfl rfl (i := (frm, i)) (trivial) (k := 6) rfl (r := r.v) (by rw [way_val, hr])) ?_
  refine Gq.val rfl rfl rfl (val_len rfl Try.underlying24 rfl (len_own (k := 7) rfl)) ?_
  refine Gq.val rfl rfl rfl (val_eql rfl rfl rfl) ?_
  refine Gq.done ?_
  refine Gx.thenN ?_
  refine Gx.decF rfl (by rw [hlr]; simp; omega) ?_
  refine Gx.skip ?_
  refine Gx.thenN ?_
  refine Gx.seq ?_
  refine Gx.regionQ Try.mixed (by kernel_rfl) ?_
  refine Gq.val rfl rfl rfl (val_move rfl rfl) ?_
  refine Gq.val rfl rfl rfl (val_nilCheck rfl rfl) ?_
  refine Gq.val rfl rfl rfl (Val.cast (val_fieldAddr rfl Try.underlying43 rfl Try.ty40 rfl rfl) (v' := ptr S 1) rfl) ?_
  refine Gq.val rfl rfl rfl (val_load rfl Try.ty40 rfl rfl (cell_rec (k := 1) rfl rfl)) ?_
  refine Gq.val rfl rfl rfl (Val.cast (val_loadA rfl Try.ty48 rfl rfl rfl (cells_rec (k := 0) rfl)) (v' := .agg #[.int .i64 ((frm.val : Nat) : Int), .int .i64 ((i.val : Nat) : Int)]) rfl) ?_
  refine Gq.val rfl rfl rfl (val_lookup1 rfl Try.underlying40 Try.kL Try.ty24 rfl rfl (i := (frm, i)) (trivial) (k := 6) rfl (r := r.v) (by rw [way_val, hr])) ?_
  refine Gq.val rfl rfl rfl (val_ixa rfl Try.underlying24 Try.ty3 rfl rfl (j := 0) (rfl) (reach_own (k := 7) rfl hx0)) ?_
  refine Gq.val rfl rfl rfl (val_load rfl Try.ty3 rfl rfl (cell_own (i := 0) (sz := 1) (j := 0) (k := 7) rfl hx0 rfl)) ?_
  refine Gq.val rfl rfl rfl (val_assign rfl rfl) ?_
  refine Gq.done ?_
  refine Gx.thenN ?_
  refine Gx.seq ?_
  refine Gx.regionO (fun j => false) 12 [0, 1, 2, 3, 4, 5, 6, 7, 8, 9, 10, 11] (fun _ => [Hp.rec_ b1 [.int .i64 ((frm.val : Nat) : Int), .int .i64 ((i.val : Nat) : Int)], Hp.rec_ S [pv, .map (some mb), iv], Hp.own FP 1 pv (pms.map Pm.b), Hp.rec_ m.b [.int .i64 ((m.p.n : Nat) : Int), .int .i64 ((m.p.how : Nat) : Int), .int .i64 ((m.p.key : Nat) : Int), m.v, .int .i64 ((m.p.yes : Nat) : Int)], Hp.own FN 1 m.v m.p.waits, R0, Hp.map Try.prog 48 pairL vW mb ms, Hp.own FN 1 r.v r.xs, R1, Hp.own FN 1 iv s.ins, R]) Try.mixed (by kernel_rfl) rfl ?_
  refine Gw.val rfl rfl rfl rfl rfl (fun us => val_move rfl rfl) ?_
  refine Gw.val rfl rfl rfl rfl rfl (fun us => val_nilCheck rfl rfl) ?_
  refine Gw.val rfl rfl rfl rfl rfl (fun us => Val.cast (val_fieldAddr rfl Try.underlying43 rfl Try.ty40 rfl rfl) (v' := ptr S 1) rfl) ?_
  refine Gw.val0 rfl rfl rfl (by kernel_rfl) rfl rfl (val_load rfl Try.ty40 rfl rfl (cell_rec (k := 1) rfl rfl)) ?_
  refine Gw.val0 rfl rfl rfl (by kernel_rfl) rfl rfl (Val.cast (val_loadA rfl Try.ty48 rfl rfl rfl (cells_rec (k := 0) rfl)) (v' := .agg #[.int .i64 ((frm.val : Nat) : Int), .int .i64 ((i.val : Nat) : Int)]) rfl) ?_
  refine Gw.val rfl rfl rfl rfl rfl (fun us => val_move rfl rfl) ?_
  refine Gw.val rfl rfl rfl rfl rfl (fun us => val_nilCheck rfl rfl) ?_
  refine Gw.val rfl rfl rfl rfl rfl (fun us => Val.cast (val_fieldAddr rfl Try.underlying43 rfl Try.ty40 rfl rfl) (v' := ptr S 1) rfl) ?_
  refine Gw.val0 rfl rfl rfl (by kernel_rfl) rfl rfl (val_load rfl Try.ty40 rfl rfl (cell_rec (k := 1) rfl rfl)) ?_
  refine Gw.val0 rfl rfl rfl (by kernel_rfl) rfl rfl (Val.cast (val_loadA rfl Try.ty48 rfl rfl rfl (cells_rec (k := 0) rfl)) (v' := .agg #[.int .i64 ((frm.val : Nat) : Int), .int .i64 ((i.val : Nat) : Int)]) rfl) ?_
  refine Gw.val0 rfl rfl rfl (by kernel_rfl) rfl rfl (val_lookup1 rfl Try.underlying40 Try.kL Try.ty24 rfl rfl (i := (frm, i)) (trivial) (k := 6) rfl (r := r.v) (by rw [way_val, hr])) ?_
  refine Gw.val rfl rfl rfl rfl rfl (fun us => val_cutFromO (lo := 1) rfl Try.underlying24 Try.ty3 rfl (n := 7) rfl rfl (rfl) (by rw [hlr]; simp)) ?_
  refine Gw.done ?_
  refine Gx.norm (l' := [Hp.rec_ b1 [.int .i64 ((frm.val : Nat) : Int), .int .i64 ((i.val : Nat) : Int)], Hp.rec_ S [pv, .map (some mb), iv], Hp.own FP 1 pv (pms.map Pm.b), Hp.rec_ m.b [.int .i64 ((m.p.n : Nat) : Int), .int .i64 ((m.p.how : Nat) : Int), .int .i64 ((m.p.key : Nat) : Int), m.v, .int .i64 ((m.p.yes : Nat) : Int)], Hp.own FN 1 m.v m.p.waits, R0, Hp.map Try.prog 48 pairL vW mb ms, Hp.own FN 1 r.v r.xs, R1, Hp.own FN 1 iv s.ins, R]) rfl ?_
  refine Gx.eff0 rfl rfl (eff_mapUpdate (vf := vW) rfl Try.underlying40 Try.kL pairK rfl rfl rfl (i := (frm, i)) (r := (⟨sCut 1 1 r.xs.length r.v, lr⟩ : Rv)) (trivial) (k := 6) rfl (by have := hok.len; unfold maxLen; omega) (l' := [Hp.rec_ b1 [.int .i64 ((frm.val : Nat) : Int), .int .i64 ((i.val : Nat) : Int)], Hp.rec_ S [pv, .map (some mb), iv], Hp.own FP 1 pv (pms.map Pm.b), Hp.rec_ m.b [.int .i64 ((m.p.n : Nat) : Int), .int .i64 ((m.p.how : Nat) : Int), .int .i64 ((m.p.key : Nat) : Int), m.v, .int .i64 ((m.p.yes : Nat) : Int)], Hp.own FN 1 m.v m.p.waits, R0, Hp.map Try.prog 48 pairL vW mb (putM ms (frm, i) (⟨sCut 1 1 r.xs.length r.v, lr⟩ : Rv)), Hp.own FN 1 r.v r.xs, R1, Hp.own FN 1 iv s.ins, R]) rfl) ?_
  rintro _ _ rfl
  refine Gx.done ?_
  refine Gx.thenN ?_
  refine Gx.seq ?_
  refine Gx.ownCut (k := 7) 1 r.xs.length rfl (by rw [hlr]; simp) (Nat.le_refl _) (l' := [Hp.rec_ b1 [.int .i64 ((frm.val : Nat) : Int), .int .i64 ((i.val : Nat) : Int)], Hp.rec_ S [pv, .map (some mb), iv], Hp.own FP 1 pv (pms.map Pm.b), Hp.rec_ m.b [.int .i64 ((m.p.n : Nat) : Int), .int .i64 ((m.p.how : Nat) : Int), .int .i64 ((m.p.key : Nat) : Int), m.v, .int .i64 ((m.p.yes : Nat) : Int)], Hp.own FN 1 m.v m.p.waits, R0, Hp.map Try.prog 48 pairL vW mb (putM ms (frm, i) (⟨sCut 1 1 r.xs.length r.v, lr⟩ : Rv)), Hp.own FN 1 (sCut 1 1 r.xs.length r.v) lr, R1, Hp.own FN 1 iv s.ins, R]) (by rw [show (List.take r.xs.length r.xs).drop 1 = lr from by rw [List.take_length, hlr]; rfl] <;> rfl) ?_
  refine Gx.front 8 rfl ?_
  refine Gx.front 8 rfl ?_
  refine Gx.front 8 rfl ?_
  refine Gx.sat (l' := [wayH (L + 1) mb (upW s.q (frm, i) lr), Hp.rec_ b1 [.int .i64 ((frm.val : Nat) : Int), .int .i64 ((i.val : Nat) : Int)], Hp.rec_ S [pv, .map (some mb), iv], Hp.own FP 1 pv (pms.map Pm.b), Hp.rec_ m.b [.int .i64 ((m.p.n : Nat) : Int), .int .i64 ((m.p.how : Nat) : Int), .int .i64 ((m.p.key : Nat) : Int), m.v, .int .i64 ((m.p.yes : Nat) : Int)], Hp.own FN 1 m.v m.p.waits, R0, Hp.own FN 1 iv s.ins, R]) (fun w H => wayH.shut (R := sep [Hp.rec_ b1 [.int .i64 ((frm.val : Nat) : Int), .int .i64 ((i.val : Nat) : Int)], Hp.rec_ S [pv, .map (some mb), iv], Hp.own FP 1 pv (pms.map Pm.b), Hp.rec_ m.b [.int .i64 ((m.p.n : Nat) : Int), .int .i64 ((m.p.how : Nat) : Int), .int .i64 ((m.p.key : Nat) : Int), m.v, .int .i64 ((m.p.yes : Nat) : Int)], Hp.own FN 1 m.v m.p.waits, R0, Hp.own FN 1 iv s.ins, R]) (hok.put (frm, i) (r := ⟨sCut 1 1 r.xs.length r.v, lr⟩) (by rw [← hrx, hlr]; simp; omega)) (H.cast (by rw [hw2]; show mapW mb (putM ms (frm, i) (⟨sCut 1 1 r.xs.length r.v, lr⟩ : Rv)) * (Hp.own FN 1 (sCut 1 1 r.xs.length r.v) lr * (R1 * sep [Hp.rec_ b1 [.int .i64 ((frm.val : Nat) : Int), .int .i64 ((i.val : Nat) : Int)], Hp.rec_ S [pv, .map (some mb), iv], Hp.own FP 1 pv (pms.map Pm.b), Hp.rec_ m.b [.int .i64 ((m.p.n : Nat) : Int), .int .i64 ((m.p.how : Nat) : Int), .int .i64 ((m.p.key : Nat) : Int), m.v, .int .i64 ((m.p.yes : Nat) : Int)], Hp.own FN 1 m.v m.p.waits, R0, Hp.own FN 1 iv s.ins, R])) = mapW mb (putM ms (frm, i) (⟨sCut 1 1 r.xs.length r.v, lr⟩ : Rv)) * ((Hp.own FN 1 (sCut 1 1 r.xs.length r.v) lr * R1) * sep [Hp.rec_ b1 [.int .i64 ((frm.val : Nat) : Int), .int .i64 ((i.val : Nat) : Int)], Hp.rec_ S [pv, .map (some mb), iv], Hp.own FP 1 pv (pms.map Pm.b), Hp.rec_ m.b [.int .i64 ((m.p.n : Nat) : Int), .int .i64 ((m.p.how : Nat) : Int), .int .i64 ((m.p.key : Nat) : Int), m.v, .int .i64 ((m.p.yes : Nat) : Int)], Hp.own FN 1 m.v m.p.waits, R0, Hp.own FN 1 iv s.ins, R]); ac_rfl))) ?_
  refine Gx.region ?_
  refine Gx.val rfl rfl rfl (val_move rfl rfl) ?_
  refine Gx.val rfl rfl rfl (val_nilCheck rfl rfl) ?_
  refine Gx.val rfl rfl rfl (Val.cast (val_fieldAddr rfl Try.underlying43 rfl Try.ty41 rfl rfl) (v' := ptr S 0) rfl) ?_
  refine Gx.val rfl rfl rfl (val_load rfl Try.ty41 rfl rfl (cell_rec (k := 2) rfl rfl)) ?_
  refine Gx.val rfl rfl rfl (val_move rfl rfl) ?_
  refine Gx.val rfl rfl rfl (val_ixa rfl Try.underlying41 Try.ty44 rfl rfl (j := i.val) (rfl) (reach_own (k := 3) rfl hkb)) ?_
  refine Gx.val rfl rfl rfl (val_load rfl Try.ty44 rfl rfl (cell_own (i := 0) (k := 3) rfl hkb rfl)) ?_
  refine Gx.val rfl rfl rfl (val_assign rfl rfl) ?_
  refine Gx.done ?_
  refine Gx.thenN ?_
  refine Gx.seq ?_
  refine Gx.seq ?_
  refine Gx.region ?_
  refine Gx.val rfl rfl rfl (val_move rfl rfl) ?_
  refine Gx.val rfl rfl rfl (val_eql rfl rfl rfl) ?_
  refine Gx.done ?_
  refine Gx.thenN ?_
  refine Gx.decF rfl (by omega) ?_
  refine Gx.skip ?_
  refine Gx.thenN ?_
  refine Gx.seq ?_
  refine Gx.region ?_
  refine Gx.val rfl rfl rfl (val_move rfl rfl) ?_
  refine Gx.val rfl rfl rfl (val_move rfl rfl) ?_
  refine Gx.val rfl rfl rfl (val_nilCheck rfl rfl) ?_
  refine Gx.val rfl rfl rfl (Val.cast (val_fieldAddr rfl Try.underlying46 rfl Try.ty3 rfl rfl) (v' := ptr m.b 0) rfl) ?_
  refine Gx.val rfl rfl rfl (val_load rfl Try.ty3 rfl rfl (cell_rec (k := 4) rfl rfl)) ?_
  refine Gx.val rfl rfl rfl (val_move rfl rfl) ?_
  refine Gx.val rfl rfl rfl (val_max rfl rfl rfl (r := ((max m.p.n x : Nat) : Int)) (by split <;> omega)) ?_
  refine Gx.val rfl rfl rfl (val_nilCheck rfl rfl) ?_
  refine Gx.val rfl rfl rfl (Val.cast (val_fieldAddr rfl Try.underlying46 rfl Try.ty3 rfl rfl) (v' := ptr m.b 0) rfl) ?_
  refine Gx.eff0 rfl rfl (eff_store rfl Try.ty3 rfl rfl (us := [.int .i64 ((max m.p.n x : Nat) : Int)]) rfl rfl rfl (k := 4) rfl (rfl) (vs' := [.int .i64 ((max m.p.n x : Nat) : Int), .int .i64 ((m.p.how : Nat) : Int), .int .i64 ((m.p.key : Nat) : Int), m.v, .int .i64 ((m.p.yes : Nat) : Int)]) (rfl) (l' := [wayH (L + 1) mb (upW s.q (frm, i) lr), Hp.rec_ b1 [.int .i64 ((frm.val : Nat) : Int), .int .i64 ((i.val : Nat) : Int)], Hp.rec_ S [pv, .map (some mb), iv], Hp.own FP 1 pv (pms.map Pm.b), Hp.rec_ m.b [.int .i64 ((max m.p.n x : Nat) : Int), .int .i64 ((m.p.how : Nat) : Int), .int .i64 ((m.p.key : Nat) : Int), m.v, .int .i64 ((m.p.yes : Nat) : Int)], Hp.own FN 1 m.v m.p.waits, R0, Hp.own FN 1 iv s.ins, R]) rfl) ?_
  rintro _ _ rfl
  refine Gx.done ?_
  refine Gx.thenN ?_
  refine Gx.seq ?_
  refine Gx.region ?_
  refine Gx.val rfl rfl rfl (val_move rfl rfl) ?_
  refine Gx.val rfl rfl rfl (val_nilCheck rfl rfl) ?_
  refine Gx.val rfl rfl rfl (Val.cast (val_fieldAddr rfl Try.underlying46 rfl Try.ty3 rfl rfl) (v' := ptr m.b 2) rfl) ?_
  refine Gx.val rfl rfl rfl (val_load rfl Try.ty3 rfl rfl (cell_rec (k := 4) rfl rfl)) ?_
  refine Gx.val rfl rfl rfl (val_move rfl rfl) ?_
  refine Gx.val rfl rfl rfl (val_call (vs := [.int .i64 ((m.p.key : Nat) : Int), .int .i64 ((x : Nat) : Int)]) rfl Try.fn20 rfl (fun w H => cmp_b ((m.p.key : Nat) : Int) ((x : Nat) : Int))) ?_
  refine Gx.val rfl rfl rfl (val_move rfl rfl) ?_
  refine Gx.val rfl rfl rfl (val_move rfl rfl) ?_
  refine Gx.val rfl rfl rfl (val_call (vs := [.int .i64 ((i.val : Nat) : Int), .int .i64 ((frm.val : Nat) : Int)]) rfl Try.fn20 rfl (fun w H => cmp_b ((i.val : Nat) : Int) ((frm.val : Nat) : Int))) ?_
  refine Gx.eff rfl rfl rfl (eff_buildSlice rfl (qs := [(0, .int .i64 (cmpI ((m.p.key : Nat) : Int) ((x : Nat) : Int))), (1, .int .i64 (cmpI ((i.val : Nat) : Int) ((frm.val : Nat) : Int)))]) rfl rfl (cs := #[.int .i64 (cmpI ((m.p.key : Nat) : Int) ((x : Nat) : Int)), .int .i64 (cmpI ((i.val : Nat) : Int) ((frm.val : Nat) : Int))]) (vs := [.int .i64 (cmpI ((m.p.key : Nat) : Int) ((x : Nat) : Int)), .int .i64 (cmpI ((i.val : Nat) : Int) ((frm.val : Nat) : Int))]) (E := 3) rfl (fun w => by first | (go_simp; done) | (go_simp; rfl))) ?_
  rintro _ _ ⟨b2, rfl, rfl⟩
  refine Gx.val rfl rfl rfl (val_call (vs := [.slice (some ⟨b2, 0, none⟩) 2 2]) rfl Try.fn19 rfl (fun w H => or_b (H.at_ (k := 0) rfl))) ?_
  refine Gx.val rfl rfl rfl (val_lss rfl rfl rfl) ?_
  refine Gx.val rfl rfl rfl (val_assign rfl rfl) ?_
  refine Gx.done ?_
  refine Gx.thenN ?_
  refine Gx.seq ?_
  refine Gx.seq ?_
  have hmn : decide ((if (cmpI ((m.p.key : Nat) : Int) ((x : Nat) : Int)) = 0 then (cmpI ((i.val : Nat) : Int) ((frm.val : Nat) : Int)) else (cmpI ((m.p.key : Nat) : Int) ((x : Nat) : Int))) < 0) = mineB m.p.key i.val x frm.val := decide_eq_decide.2 (by unfold cmpI; (repeat' split) <;> omega)
  refine Gx.slot (t := 10) (v := .bool (mineB m.p.key i.val x frm.val)) (by rw [← hmn]; rfl) ?_
  refine Gx.region ?_
  refine Gx.val rfl rfl rfl (val_move rfl rfl) ?_
  refine Gx.val rfl rfl rfl (val_nilCheck rfl rfl) ?_
  refine Gx.val rfl rfl rfl (Val.cast (val_fieldAddr rfl Try.underlying46 rfl Try.ty3 rfl rfl) (v' := ptr m.b 1) rfl) ?_
  refine Gx.val rfl rfl rfl (val_load rfl Try.ty3 rfl rfl (cell_rec (k := 5) rfl rfl)) ?_
  refine Gx.val rfl rfl rfl (val_eql rfl rfl rfl) ?_
  refine Gx.val rfl rfl rfl (val_move rfl rfl) ?_
  refine Gx.cases (t := 87) rfl (fun h3 => ?_) (fun h3 => ?_)
  · refine Gx.skipg rfl rfl rfl rfl rfl rfl ?_
    refine Gx.skipg rfl rfl rfl rfl rfl rfl ?_
    refine Gx.skipg rfl rfl rfl rfl rfl rfl ?_
    refine Gx.skipg rfl rfl rfl rfl rfl rfl ?_
    refine Gx.skipg rfl rfl rfl rfl rfl rfl ?_
    refine Gx.skipg rfl rfl rfl rfl rfl rfl ?_
    refine Gx.skipu rfl rfl rfl rfl rfl ?_
    refine Gx.skipg rfl rfl rfl rfl rfl rfl ?_
    refine Gx.val rfl rfl rfl (val_pickT rfl rfl rfl) ?_
    refine Gx.done ?_
    refine Gx.thenN ?_
    refine Gx.t rfl ?_
    refine Gx.region ?_
    refine Gx.val rfl rfl rfl (val_move rfl rfl) ?_
    refine Gx.val rfl rfl rfl (val_move rfl rfl) ?_
    refine Gx.val rfl rfl rfl (val_nilCheck rfl rfl) ?_
    refine Gx.val rfl rfl rfl (Val.cast (val_fieldAddr rfl Try.underlying46 rfl Try.ty24 rfl rfl) (v' := ptr m.b 3) rfl) ?_
    refine Gx.val rfl rfl rfl (val_load rfl Try.ty24 rfl rfl (cell_rec (k := 5) rfl rfl)) ?_
    refine Gx.val rfl rfl rfl (val_move rfl rfl) ?_
    refine Gx.eff rfl rfl rfl (eff_buildSlice rfl (qs := [(0, .int .i64 ((frm.val : Nat) : Int))]) rfl rfl (cs := #[.int .i64 ((frm.val : Nat) : Int)]) (vs := [.int .i64 ((frm.val : Nat) : Int)]) (E := 3) rfl (fun w => by first | (go_simp; done) | (go_simp; rfl))) ?_
    rintro _ _ ⟨b4, rfl, rfl⟩
    refine Gx.eff rfl rfl rfl (eff_push (r := frm.val) rfl Try.eN FN_len FN_one rfl rfl (k := 0) rfl rfl (k' := 6) rfl (by omega) (by omega)) ?_
    rintro v5 _ ⟨hiv5, rfl⟩
    refine Gx.norm (l' := [Hp.rec_ b2 [.int .i64 (cmpI ((m.p.key : Nat) : Int) ((x : Nat) : Int)), .int .i64 (cmpI ((i.val : Nat) : Int) ((frm.val : Nat) : Int))], wayH (L + 1) mb (upW s.q (frm, i) lr), Hp.rec_ b1 [.int .i64 ((frm.val : Nat) : Int), .int .i64 ((i.val : Nat) : Int)], Hp.rec_ S [pv, .map (some mb), iv], Hp.own FP 1 pv (pms.map Pm.b), Hp.rec_ m.b [.int .i64 ((max m.p.n x : Nat) : Int), .int .i64 ((m.p.how : Nat) : Int), .int .i64 ((m.p.key : Nat) : Int), m.v, .int .i64 ((m.p.yes : Nat) : Int)], Hp.own FN 1 v5 (m.p.waits ++ [frm.val]), R0, Hp.own FN 1 iv s.ins, R]) rfl ?_
    refine Gx.val rfl rfl rfl (val_nilCheck rfl rfl) ?_
    refine Gx.val rfl rfl rfl (Val.cast (val_fieldAddr rfl Try.underlying46 rfl Try.ty24 rfl rfl) (v' := ptr m.b 3) rfl) ?_
    refine Gx.eff0 rfl rfl (eff_store rfl Try.ty24 rfl rfl (us := [v5]) hiv5.cellsL rfl hiv5.all (k := 5) rfl (rfl) (vs' := [.int .i64 ((max m.p.n x : Nat) : Int), .int .i64 ((m.p.how : Nat) : Int), .int .i64 ((m.p.key : Nat) : Int), v5, .int .i64 ((m.p.yes : Nat) : Int)]) (rfl) (l' := [Hp.rec_ b2 [.int .i64 (cmpI ((m.p.key : Nat) : Int) ((x : Nat) : Int)), .int .i64 (cmpI ((i.val : Nat) : Int) ((frm.val : Nat) : Int))], wayH (L + 1) mb (upW s.q (frm, i) lr), Hp.rec_ b1 [.int .i64 ((frm.val : Nat) : Int), .int .i64 ((i.val : Nat) : Int)], Hp.rec_ S [pv, .map (some mb), iv], Hp.own FP 1 pv (pms.map Pm.b), Hp.rec_ m.b [.int .i64 ((max m.p.n x : Nat) : Int), .int .i64 ((m.p.how : Nat) : Int), .int .i64 ((m.p.key : Nat) : Int), v5, .int .i64 ((m.p.yes : Nat) : Int)], Hp.own FN 1 v5 (m.p.waits ++ [frm.val]), R0, Hp.own FN 1 iv s.ins, R]) rfl) ?_
    rintro _ _ rfl
    refine Gx.done ?_
    refine Gx.thenN ?_
    refine Gx.seq ?_
    refine Gx.region ?_
    refine Gx.val rfl rfl rfl (val_assign rfl rfl) ?_
    refine Gx.done ?_
    refine Gx.thenN ?_
    refine Gx.ret ?_
    refine Gx.drop 2 rfl ?_
    refine Gx.drop 0 rfl ?_
    refine Gx.front 7 rfl ?_
    refine Gx.front 7 rfl ?_
    refine Gx.front 2 rfl ?_
    refine Gx.front 7 rfl ?_
    refine Gx.front 7 rfl ?_
    refine Gx.front 7 rfl ?_
    refine Gx.front 7 rfl ?_
    refine Gx.front 7 rfl ?_
    refine Gx.norm (l' := [Hp.rec_ S [pv, .map (some mb), iv], Hp.own FP 1 pv (pms.map Pm.b), Hp.rec_ m.b [.int .i64 ((max m.p.n x : Nat) : Int), .int .i64 ((m.p.how : Nat) : Int), .int .i64 ((m.p.key : Nat) : Int), v5, .int .i64 ((m.p.yes : Nat) : Int)], Hp.own FN 1 v5 (m.p.waits ++ [frm.val]), R0, wayH (L + 1) mb (upW s.q (frm, i) lr), Hp.own FN 1 iv s.ins, R]) rfl ?_
    refine Gx.sat (l' := [worldH S (L + 1) ({ s with q := upW s.q (frm, i) lr, ps := s.ps.set i.val { m.p with n := max m.p.n x, waits := m.p.waits ++ [frm.val] } }), R]) (fun w H => worldH.shutF (s' := { s with q := upW s.q (frm, i) lr, ps := s.ps.set i.val { m.p with n := max m.p.n x, waits := m.p.waits ++ [frm.val] } }) hk hb (⟨m.b, v5, ⟨max m.p.n x, m.p.how, m.p.key, m.p.yes, (m.p.waits ++ [frm.val])⟩⟩ : Pm) rfl (by rw [hmap] <;> first | rfl | (simp; done) | (exact (List.set_getElem?_self' hp).symm)) H) ?_
    refine Gx.ret1 Try.results15 rfl ?_
    refine ⟨rfl, ?_⟩
    rw [sep1]
    unfold takeM
    rw [smN_self, smN_self, h0]
    dsimp only
    rw [hp]
    dsimp only
    rw [if_neg hx9]
    rw [if_pos hd]
  · refine Gx.valg rfl rfl rfl rfl rfl (val_move rfl rfl) ?_
    refine Gx.valg rfl rfl rfl rfl rfl (val_nilCheck rfl rfl) ?_
    refine Gx.valg rfl rfl rfl rfl rfl (Val.cast (val_fieldAddr rfl Try.underlying46 rfl Try.ty3 rfl rfl) (v' := ptr m.b 1) rfl) ?_
    refine Gx.valg rfl rfl rfl rfl rfl (val_load rfl Try.ty3 rfl rfl (cell_rec (k := 5) rfl rfl)) ?_
    refine Gx.valg rfl rfl rfl rfl rfl (val_eql rfl rfl rfl) ?_
    refine Gx.valg rfl rfl rfl rfl rfl (val_move rfl rfl) ?_
    refine Gx.cases (t := 93) rfl (fun h6 => ?_) (fun h6 => ?_)
    · refine Gx.valg rfl rfl rfl rfl rfl (val_move rfl rfl) ?_
      refine Gx.valg rfl rfl rfl rfl rfl (val_pickT rfl rfl rfl) ?_
      refine Gx.val rfl rfl rfl (val_pickF rfl rfl rfl) ?_
      refine Gx.done ?_
      refine Gx.thenN ?_
      refine Gx.bool rfl (fun h7 => ?_) (fun h7 => ?_)
      · refine Gx.region ?_
        refine Gx.val rfl rfl rfl (val_move rfl rfl) ?_
        refine Gx.val rfl rfl rfl (val_move rfl rfl) ?_
        refine Gx.val rfl rfl rfl (val_nilCheck rfl rfl) ?_
        refine Gx.val rfl rfl rfl (Val.cast (val_fieldAddr rfl Try.underlying46 rfl Try.ty24 rfl rfl) (v' := ptr m.b 3) rfl) ?_
        refine Gx.val rfl rfl rfl (val_load rfl Try.ty24 rfl rfl (cell_rec (k := 5) rfl rfl)) ?_
        refine Gx.val rfl rfl rfl (val_move rfl rfl) ?_
        refine Gx.eff rfl rfl rfl (eff_buildSlice rfl (qs := [(0, .int .i64 ((frm.val : Nat) : Int))]) rfl rfl (cs := #[.int .i64 ((frm.val : Nat) : Int)]) (vs := [.int .i64 ((frm.val : Nat) : Int)]) (E := 3) rfl (fun w => by first | (go_simp; done) | (go_simp; rfl))) ?_
        rintro _ _ ⟨b8, rfl, rfl⟩
        refine Gx.eff rfl rfl rfl (eff_push (r := frm.val) rfl Try.eN FN_len FN_one rfl rfl (k := 0) rfl rfl (k' := 6) rfl (by omega) (by omega)) ?_
        rintro v9 _ ⟨hiv9, rfl⟩
        refine Gx.norm (l' := [Hp.rec_ b2 [.int .i64 (cmpI ((m.p.key : Nat) : Int) ((x : Nat) : Int)), .int .i64 (cmpI ((i.val : Nat) : Int) ((frm.val : Nat) : Int))], wayH (L + 1) mb (upW s.q (frm, i) lr), Hp.rec_ b1 [.int .i64 ((frm.val : Nat) : Int), .int .i64 ((i.val : Nat) : Int)], Hp.rec_ S [pv, .map (some mb), iv], Hp.own FP 1 pv (pms.map Pm.b), Hp.rec_ m.b [.int .i64 ((max m.p.n x : Nat) : Int), .int .i64 ((m.p.how : Nat) : Int), .int .i64 ((m.p.key : Nat) : Int), m.v, .int .i64 ((m.p.yes : Nat) : Int)], Hp.own FN 1 v9 (m.p.waits ++ [frm.val]), R0, Hp.own FN 1 iv s.ins, R]) rfl ?_
        refine Gx.val rfl rfl rfl (val_nilCheck rfl rfl) ?_
        refine Gx.val rfl rfl rfl (Val.cast (val_fieldAddr rfl Try.underlying46 rfl Try.ty24 rfl rfl) (v' := ptr m.b 3) rfl) ?_
        refine Gx.eff0 rfl rfl (eff_store rfl Try.ty24 rfl rfl (us := [v9]) hiv9.cellsL rfl hiv9.all (k := 5) rfl (rfl) (vs' := [.int .i64 ((max m.p.n x : Nat) : Int), .int .i64 ((m.p.how : Nat) : Int), .int .i64 ((m.p.key : Nat) : Int), v9, .int .i64 ((m.p.yes : Nat) : Int)]) (rfl) (l' := [Hp.rec_ b2 [.int .i64 (cmpI ((m.p.key : Nat) : Int) ((x : Nat) : Int)), .int .i64 (cmpI ((i.val : Nat) : Int) ((frm.val : Nat) : Int))], wayH (L + 1) mb (upW s.q (frm, i) lr), Hp.rec_ b1 [.int .i64 ((frm.val : Nat) : Int), .int .i64 ((i.val : Nat) : Int)], Hp.rec_ S [pv, .map (some mb), iv], Hp.own FP 1 pv (pms.map Pm.b), Hp.rec_ m.b [.int .i64 ((max m.p.n x : Nat) : Int), .int .i64 ((m.p.how : Nat) : Int), .int .i64 ((m.p.key : Nat) : Int), v9, .int .i64 ((m.p.yes : Nat) : Int)], Hp.own FN 1 v9 (m.p.waits ++ [frm.val]), R0, Hp.own FN 1 iv s.ins, R]) rfl) ?_
        rintro _ _ rfl
        refine Gx.done ?_
        refine Gx.thenN ?_
        refine Gx.seq ?_
        refine Gx.region ?_
        refine Gx.val rfl rfl rfl (val_assign rfl rfl) ?_
        refine Gx.done ?_
        refine Gx.thenN ?_
        refine Gx.ret ?_
        refine Gx.drop 2 rfl ?_
        refine Gx.drop 0 rfl ?_
        refine Gx.front 7 rfl ?_
        refine Gx.front 7 rfl ?_
        refine Gx.front 2 rfl ?_
        refine Gx.front 7 rfl ?_
        refine Gx.front 7 rfl ?_
        refine Gx.front 7 rfl ?_
        refine Gx.front 7 rfl ?_
        refine Gx.front 7 rfl ?_
        refine Gx.norm (l' := [Hp.rec_ S [pv, .map (some mb), iv], Hp.own FP 1 pv (pms.map Pm.b), Hp.rec_ m.b [.int .i64 ((max m.p.n x : Nat) : Int), .int .i64 ((m.p.how : Nat) : Int), .int .i64 ((m.p.key : Nat) : Int), v9, .int .i64 ((m.p.yes : Nat) : Int)], Hp.own FN 1 v9 (m.p.waits ++ [frm.val]), R0, wayH (L + 1) mb (upW s.q (frm, i) lr), Hp.own FN 1 iv s.ins, R]) rfl ?_
        refine Gx.sat (l' := [worldH S (L + 1) ({ s with q := upW s.q (frm, i) lr, ps := s.ps.set i.val { m.p with n := max m.p.n x, waits := m.p.waits ++ [frm.val] } }), R]) (fun w H => worldH.shutF (s' := { s with q := upW s.q (frm, i) lr, ps := s.ps.set i.val { m.p with n := max m.p.n x, waits := m.p.waits ++ [frm.val] } }) hk hb (⟨m.b, v9, ⟨max m.p.n x, m.p.how, m.p.key, m.p.yes, (m.p.waits ++ [frm.val])⟩⟩ : Pm) rfl (by rw [hmap] <;> first | rfl | (simp; done) | (exact (List.set_getElem?_self' hp).symm)) H) ?_
        refine Gx.ret1 Try.results15 rfl ?_
        refine ⟨rfl, ?_⟩
        rw [sep1]
        unfold takeM
        rw [smN_self, smN_self, h0]
        dsimp only
        rw [hp]
        dsimp only
        rw [if_neg hx9]
        rw [if_pos hd]
      · exfalso; first | omega | (exact hd (.inl (by omega))) | (exact hd (.inr ⟨by omega, by assumption⟩)) | simp_all
    · refine Gx.skipg rfl rfl rfl rfl rfl rfl ?_
      refine Gx.valg rfl rfl rfl rfl rfl (val_pickF rfl rfl rfl) ?_
      refine Gx.val rfl rfl rfl (val_pickF rfl rfl rfl) ?_
      refine Gx.done ?_
      refine Gx.thenN ?_
      refine Gx.f rfl ?_
      exfalso; first | omega | simp_all

theorem take_answer {W w : World} {S L x : Nat} {i frm : Sm} {s : MS} {p : Pq} {lr : List Nat} {R : Hp} (hp : s.ps[i.val]? = some p) (hn : s.ps.length ≤ 6) (hi : s.ins.length ≤ 10000) (hpn : p.n ≤ 10000) (hpy : p.yes ≤ 10000) (hL : L ≤ 50000) (h0 : s.q (frm, i) = x :: lr) (hx9 : ¬ x = 0) (hxn : x ≤ 10000) (hpk : p.key ≤ 10000) (hd : ¬ (p.how = 2 ∨ (p.how = 1 ∧ mineB p.key i.val x frm.val = true))) (H : Sat W w (worldH S L s * R)) :
    Calls Try.prog 15 #[ptr S 0, .int .i64 ((i.val : Nat) : Int), .int .i64 ((frm.val : Nat) : Int)] w (Ret W fun v l => v = .int .i64 0 ∧ sep l = worldH S (L + 1 + 1) (takeM s i.val frm.val).2 * R) := by
  obtain ⟨pv, mb, iv, pms, m, R0, hmap, hk, hmp, hb, H⟩ := worldH.openF hp H
  have hkb : (pms.map Pm.b)[i.val]? = some m.b := by rw [List.getElem?_map, hk]; rfl
  have hkl := (List.getElem?_eq_some_iff.1 hk).1
  have hbl : (pms.map Pm.b).length = s.ps.length := by rw [← hmap, List.length_map, List.length_map]
  subst hmp
  have hi6 := (List.getElem?_eq_some_iff.1 hp).1
  obtain ⟨ms, hok, H⟩ : ∃ ms, WayOk L ms s.q ∧ Sat W w (sep [Hp.rec_ S [pv, .map (some mb), iv], Hp.own FP 1 pv (pms.map Pm.b), recP m, Hp.own FN 1 m.v m.p.waits, R0, mapW mb ms, Hp.big rowH ms, Hp.own FN 1 iv s.ins, R]) := by
    obtain ⟨ms, hok, H2⟩ := wayH.open_ (H.at_ (k := 5) rfl)
    exact ⟨ms, hok, H2.cast (by show mapW mb ms * (Hp.big rowH ms * (Hp.rec_ S _ * (_ * (_ * (_ * (R0 * (_ * (R * 1)))))))) = Hp.rec_ S _ * (_ * (_ * (_ * (R0 * (mapW mb ms * (Hp.big rowH ms * (_ * (R * 1)))))))); ac_rfl)⟩
  obtain ⟨R1, hw1, hw2, hw3⟩ := way_focus ms (frm, i)
  have hrx := way_xs hok (frm, i)
  obtain ⟨r, hr⟩ : ∃ r, r = (getM ms (frm, i)).getD zRv := ⟨_, rfl⟩
  rw [← hr] at hw1 hw3 hrx
  have H := hw1 (H.at_ (k := 6) rfl)
  have H : Sat W w (sep [Hp.rec_ S [pv, .map (some mb), iv], Hp.own FP 1 pv (pms.map Pm.b), recP m, Hp.own FN 1 m.v m.p.waits, R0, mapW mb ms, Hp.own FN 1 r.v r.xs, R1, Hp.own FN 1 iv s.ins, R]) :=
    H.cast (by show Hp.own FN 1 r.v r.xs * (R1 * (Hp.rec_ S _ * (_ * (_ * (_ * (R0 * (mapW mb ms * (_ * (R * 1))))))))) = Hp.rec_ S _ * (_ * (_ * (_ * (R0 * (mapW mb ms * (Hp.own FN 1 r.v r.xs * (R1 * (_ * (R * 1))))))))); ac_rfl)
  have hx0 : r.xs[0]? = some x := by rw [hrx, h0]; rfl
  have hlr : r.xs = x :: lr := by rw [hrx, h0]
  refine Gx.enter (l := [Hp.rec_ S [pv, .map (some mb), iv], Hp.own FP 1 pv (pms.map Pm.b), Hp.rec_ m.b [.int .i64 ((m.p.n : Nat) : Int), .int .i64 ((m.p.how : Nat) : Int), .int .i64 ((m.p.key : Nat) : Int), m.v, .int .i64 ((m.p.yes : Nat) : Int)], Hp.own FN 1 m.v m.p.waits, R0, Hp.map Try.prog 48 pairL vW mb ms, Hp.own FN 1 r.v r.xs, R1, Hp.own FN 1 iv s.ins, R]) Try.func15 rfl Try.ntmps15 rfl (H) ?_
  refine Gx.know (m' := [(0, ptr S 0), (1, .int .i64 ((i.val : Nat) : Int)), (2, .int .i64 ((frm.val : Nat) : Int))]) (.cons rfl (.cons rfl (.cons rfl .nil))) ?_
  refine Gx.seq ?_
  refine Gx.region ?_
  refine Gx.val rfl rfl rfl (val_assign rfl rfl) ?_
  refine Gx.done ?_
  refine Gx.thenN ?_
  refine Gx.seq ?_
  refine Gx.region ?_
  refine Gx.val rfl rfl rfl (val_move rfl rfl) ?_
  refine Gx.val rfl rfl rfl (val_move rfl rfl) ?_
  refine Gx.val rfl rfl rfl (val_build rfl (qs := [(0, .int .i64 ((frm.val : Nat) : Int)), (1, .int .i64 ((i.val : Nat) : Int))]) rfl rfl (fun w => by go_simp) (v := .agg #[.int .i64 ((frm.val : Nat) : Int), .int .i64 ((i.val : Nat) : Int)])) ?_
  refine Gx.eff rfl rfl rfl (eff_alloc rfl Try.ty48 (vs := [.int .i64 0, .int .i64 0]) rfl) ?_
  rintro _ _ ⟨b1, rfl, rfl⟩
  refine Gx.eff0 rfl rfl (eff_store rfl Try.ty48 rfl rfl (us := [.int .i64 ((frm.val : Nat) : Int), .int .i64 ((i.val : Nat) : Int)]) rfl rfl rfl (k := 0) rfl (rfl) (vs' := [.int .i64 ((frm.val : Nat) : Int), .int .i64 ((i.val : Nat) : Int)]) (rfl) (l' := [Hp.rec_ b1 [.int .i64 ((frm.val : Nat) : Int), .int .i64 ((i.val : Nat) : Int)], Hp.rec_ S [pv, .map (some mb), iv], Hp.own FP 1 pv (pms.map Pm.b), Hp.rec_ m.b [.int .i64 ((m.p.n : Nat) : Int), .int .i64 ((m.p.how : Nat) : Int), .int .i64 ((m.p.key : Nat) : Int), m.v, .int .i64 ((m.p.yes : Nat) : Int)], Hp.own FN 1 m.v m.p.waits, R0, Hp.map Try.prog 48 pairL vW mb ms, Hp.own FN 1 r.v r.xs, R1, Hp.own FN 1 iv s.ins, R]) rfl) ?_
  rintro _ _ rfl
  refine Gx.done ?_
  refine Gx.thenN ?_
  refine Gx.seq ?_
  refine Gx.seq ?_
  refine Gx.regionQ Try.mixed (by kernel_rfl) ?_
  refine Gq.val rfl rfl rfl (val_move rfl rfl) ?_
  refine Gq.val rfl rfl rfl (val_nilCheck rfl rfl) ?_
  refine Gq.val rfl rfl rfl (Val.cast (val_fieldAddr rfl Try.underlying43 rfl Try.ty40 rfl rfl) (v' := ptr S 1) rfl) ?_
  refine Gq.val rfl rfl rfl (val_load rfl Try.ty40 rfl rfl (cell_rec (k := 1) rfl rfl)) ?_
  refine Gq.val rfl rfl rfl (Val.cast (val_loadA rfl Try.ty48 rfl rfl rfl (cells_rec (k := 0) rfl)) (v' := .agg #[.int .i64 ((frm.val : Nat) : Int), .int .i64 ((i.val : Nat) : Int)]) rfl) ?_
  refine Gq.val rfl rfl rfl (val_lookup1 rfl Try.underlying40 Try.kL Try.ty24 rfl rfl (i := (frm, i)) (trivial) (k := 6) rfl (r := r.v) (by rw [way_val, hr])) ?_
  refine Gq.val rfl rfl rfl (val_len rfl Try.underlying24 rfl (len_own (k := 7) rfl)) ?_
  refine Gq.val rfl rfl rfl (val_eql rfl rfl rfl) ?_
  refine Gq.done ?_
  refine Gx.thenN ?_
  refine Gx.decF rfl (by rw [hlr]; simp; omega) ?_
  refine Gx.skip ?_
  refine Gx.thenN ?_
  refine Gx.seq ?_
  refine Gx.regionQ Try.mixed (by kernel_rfl) ?_
  refine Gq.val rfl rfl rfl (val_move rfl rfl) ?_
  refine Gq.val rfl rfl rfl (val_nilCheck rfl rfl) ?_
  refine Gq.val rfl rfl rfl (Val.cast (val_fieldAddr rfl Try.underlying43 rfl Try.ty40 rfl rfl) (v' := ptr S 1) rfl) ?_
  refine Gq.val rfl rfl rfl (val_load rfl Try.ty40 rfl rfl (cell_rec (k := 1) rfl rfl)) ?_
  refine Gq.val rfl rfl rfl (Val.cast (val_loadA rfl Try.ty48 rfl rfl rfl (cells_rec (k := 0) rfl)) (v' := .agg #[.int .i64 ((frm.val : Nat) : Int), .int .i64 ((i.val : Nat) : Int)]) rfl) ?_
  refine Gq.val rfl rfl rfl (val_lookup1 rfl Try.underlying40 Try.kL Try.ty24 rfl rfl (i := (frm, i)) (trivial) (k := 6) rfl (r := r.v) (by rw [way_val, hr])) ?_
  refine Gq.val rfl rfl rfl (val_ixa rfl Try.underlying24 Try.ty3 rfl rfl (j := 0) (rfl) (reach_own (k := 7) rfl hx0)) ?_
  refine Gq.val rfl rfl rfl (val_load rfl Try.ty3 rfl rfl (cell_own (i := 0) (sz := 1) (j := 0) (k := 7) rfl hx0 rfl)) ?_
  refine Gq.val rfl rfl rfl (val_assign rfl rfl) ?_
  refine Gq.done ?_
  refine Gx.thenN ?_
  refine Gx.seq ?_
  refine Gx.regionO (fun j => false) 12 [0, 1, 2, 3, 4, 5, 6, 7, 8, 9, 10, 11] (fun _ => [Hp.rec_ b1 [.int .i64 ((frm.val : Nat) : Int), .int .i64 ((i.val : Nat) : Int)], Hp.rec_ S [pv, .map (some mb), iv], Hp.own FP 1 pv (pms.map Pm.b), Hp.rec_ m.b [.int .i64 ((m.p.n : Nat) : Int), .int .i64 ((m.p.how : Nat) : Int), .int .i64 ((m.p.key : Nat) : Int), m.v, .int .i64 ((m.p.yes : Nat) : Int)], Hp.own FN 1 m.v m.p.waits, R0, Hp.map Try.prog 48 pairL vW mb ms, Hp.own FN 1 r.v r.xs, R1, Hp.own FN 1 iv s.ins, R]) Try.mixed (by kernel_rfl) rfl ?_
  refine Gw.val rfl rfl rfl rfl rfl (fun us => val_move rfl rfl) ?_
  refine Gw.val rfl rfl rfl rfl rfl (fun us => val_nilCheck rfl rfl) ?_
  refine Gw.val rfl rfl rfl rfl rfl (fun us => Val.cast (val_fieldAddr rfl Try.underlying43 rfl Try.ty40 rfl rfl) (v' := ptr S 1) rfl) ?_
  refine Gw.val0 rfl rfl rfl (by kernel_rfl) rfl rfl (val_load rfl Try.ty40 rfl rfl (cell_rec (k := 1) rfl rfl)) ?_
  refine Gw.val0 rfl rfl rfl (by kernel_rfl) rfl rfl (Val.cast (val_loadA rfl Try.ty48 rfl rfl rfl (cells_rec (k := 0) rfl)) (v' := .agg #[.int .i64 ((frm.val : Nat) : Int), .int .i64 ((i.val : Nat) : Int)]) rfl) ?_
  refine Gw.val rfl rfl rfl rfl rfl (fun us => val_move rfl rfl) ?_
  refine Gw.val rfl rfl rfl rfl rfl (fun us => val_nilCheck rfl rfl) ?_
  refine Gw.val rfl rfl rfl rfl rfl (fun us => Val.cast (val_fieldAddr rfl Try.underlying43 rfl Try.ty40 rfl rfl) (v' := ptr S 1) rfl) ?_
  refine Gw.val0 rfl rfl rfl (by kernel_rfl) rfl rfl (val_load rfl Try.ty40 rfl rfl (cell_rec (k := 1) rfl rfl)) ?_
  refine Gw.val0 rfl rfl rfl (by kernel_rfl) rfl rfl (Val.cast (val_loadA rfl Try.ty48 rfl rfl rfl (cells_rec (k := 0) rfl)) (v' := .agg #[.int .i64 ((frm.val : Nat) : Int), .int .i64 ((i.val : Nat) : Int)]) rfl) ?_
  refine Gw.val0 rfl rfl rfl (by kernel_rfl) rfl rfl (val_lookup1 rfl Try.underlying40 Try.kL Try.ty24 rfl rfl (i := (frm, i)) (trivial) (k := 6) rfl (r := r.v) (by rw [way_val, hr])) ?_
  refine Gw.val rfl rfl rfl rfl rfl (fun us => val_cutFromO (lo := 1) rfl Try.underlying24 Try.ty3 rfl (n := 7) rfl rfl (rfl) (by rw [hlr]; simp)) ?_
  refine Gw.done ?_
  refine Gx.norm (l' := [Hp.rec_ b1 [.int .i64 ((frm.val : Nat) : Int), .int .i64 ((i.val : Nat) : Int)], Hp.rec_ S [pv, .map (some mb), iv], Hp.own FP 1 pv (pms.map Pm.b), Hp.rec_ m.b [.int .i64 ((m.p.n : Nat) : Int), .int .i64 ((m.p.how : Nat) : Int), .int .i64 ((m.p.key : Nat) : Int), m.v, .int .i64 ((m.p.yes : Nat) : Int)], Hp.own FN 1 m.v m.p.waits, R0, Hp.map Try.prog 48 pairL vW mb ms, Hp.own FN 1 r.v r.xs, R1, Hp.own FN 1 iv s.ins, R]) rfl ?_
  refine Gx.eff0 rfl rfl (eff_mapUpdate (vf := vW) rfl Try.underlying40 Try.kL pairK rfl rfl rfl (i := (frm, i)) (r := (⟨sCut 1 1 r.xs.length r.v, lr⟩ : Rv)) (trivial) (k := 6) rfl (by have := hok.len; unfold maxLen; omega) (l' := [Hp.rec_ b1 [.int .i64 ((frm.val : Nat) : Int), .int .i64 ((i.val : Nat) : Int)], Hp.rec_ S [pv, .map (some mb), iv], Hp.own FP 1 pv (pms.map Pm.b), Hp.rec_ m.b [.int .i64 ((m.p.n : Nat) : Int), .int .i64 ((m.p.how : Nat) : Int), .int .i64 ((m.p.key : Nat) : Int), m.v, .int .i64 ((m.p.yes : Nat) : Int)], Hp.own FN 1 m.v m.p.waits, R0, Hp.map Try.prog 48 pairL vW mb (putM ms (frm, i) (⟨sCut 1 1 r.xs.length r.v, lr⟩ : Rv)), Hp.own FN 1 r.v r.xs, R1, Hp.own FN 1 iv s.ins, R]) rfl) ?_
  rintro _ _ rfl
  refine Gx.done ?_
  refine Gx.thenN ?_
  refine Gx.seq ?_
  refine Gx.ownCut (k := 7) 1 r.xs.length rfl (by rw [hlr]; simp) (Nat.le_refl _) (l' := [Hp.rec_ b1 [.int .i64 ((frm.val : Nat) : Int), .int .i64 ((i.val : Nat) : Int)], Hp.rec_ S [pv, .map (some mb), iv], Hp.own FP 1 pv (pms.map Pm.b), Hp.rec_ m.b [.int .i64 ((m.p.n : Nat) : Int), .int .i64 ((m.p.how : Nat) : Int), .int .i64 ((m.p.key : Nat) : Int), m.v, .int .i64 ((m.p.yes : Nat) : Int)], Hp.own FN 1 m.v m.p.waits, R0, Hp.map Try.prog 48 pairL vW mb (putM ms (frm, i) (⟨sCut 1 1 r.xs.length r.v, lr⟩ : Rv)), Hp.own FN 1 (sCut 1 1 r.xs.length r.v) lr, R1, Hp.own FN 1 iv s.ins, R]) (by rw [show (List.take r.xs.length r.xs).drop 1 = lr from by rw [List.take_length, hlr]; rfl] <;> rfl) ?_
  refine Gx.front 8 rfl ?_
  refine Gx.front 8 rfl ?_
  refine Gx.front 8 rfl ?_
  refine Gx.sat (l' := [wayH (L + 1) mb (upW s.q (frm, i) lr), Hp.rec_ b1 [.int .i64 ((frm.val : Nat) : Int), .int .i64 ((i.val : Nat) : Int)], Hp.rec_ S [pv, .map (some mb), iv], Hp.own FP 1 pv (pms.map Pm.b), Hp.rec_ m.b [.int .i64 ((m.p.n : Nat) : Int), .int .i64 ((m.p.how : Nat) : Int), .int .i64 ((m.p.key : Nat) : Int), m.v, .int .i64 ((m.p.yes : Nat) : Int)], Hp.own FN 1 m.v m.p.waits, R0, Hp.own FN 1 iv s.ins, R]) (fun w H => wayH.shut (R := sep [Hp.rec_ b1 [.int .i64 ((frm.val : Nat) : Int), .int .i64 ((i.val : Nat) : Int)], Hp.rec_ S [pv, .map (some mb), iv], Hp.own FP 1 pv (pms.map Pm.b), Hp.rec_ m.b [.int .i64 ((m.p.n : Nat) : Int), .int .i64 ((m.p.how : Nat) : Int), .int .i64 ((m.p.key : Nat) : Int), m.v, .int .i64 ((m.p.yes : Nat) : Int)], Hp.own FN 1 m.v m.p.waits, R0, Hp.own FN 1 iv s.ins, R]) (hok.put (frm, i) (r := ⟨sCut 1 1 r.xs.length r.v, lr⟩) (by rw [← hrx, hlr]; simp; omega)) (H.cast (by rw [hw2]; show mapW mb (putM ms (frm, i) (⟨sCut 1 1 r.xs.length r.v, lr⟩ : Rv)) * (Hp.own FN 1 (sCut 1 1 r.xs.length r.v) lr * (R1 * sep [Hp.rec_ b1 [.int .i64 ((frm.val : Nat) : Int), .int .i64 ((i.val : Nat) : Int)], Hp.rec_ S [pv, .map (some mb), iv], Hp.own FP 1 pv (pms.map Pm.b), Hp.rec_ m.b [.int .i64 ((m.p.n : Nat) : Int), .int .i64 ((m.p.how : Nat) : Int), .int .i64 ((m.p.key : Nat) : Int), m.v, .int .i64 ((m.p.yes : Nat) : Int)], Hp.own FN 1 m.v m.p.waits, R0, Hp.own FN 1 iv s.ins, R])) = mapW mb (putM ms (frm, i) (⟨sCut 1 1 r.xs.length r.v, lr⟩ : Rv)) * ((Hp.own FN 1 (sCut 1 1 r.xs.length r.v) lr * R1) * sep [Hp.rec_ b1 [.int .i64 ((frm.val : Nat) : Int), .int .i64 ((i.val : Nat) : Int)], Hp.rec_ S [pv, .map (some mb), iv], Hp.own FP 1 pv (pms.map Pm.b), Hp.rec_ m.b [.int .i64 ((m.p.n : Nat) : Int), .int .i64 ((m.p.how : Nat) : Int), .int .i64 ((m.p.key : Nat) : Int), m.v, .int .i64 ((m.p.yes : Nat) : Int)], Hp.own FN 1 m.v m.p.waits, R0, Hp.own FN 1 iv s.ins, R]); ac_rfl))) ?_
  refine Gx.region ?_
  refine Gx.val rfl rfl rfl (val_move rfl rfl) ?_
  refine Gx.val rfl rfl rfl (val_nilCheck rfl rfl) ?_
  refine Gx.val rfl rfl rfl (Val.cast (val_fieldAddr rfl Try.underlying43 rfl Try.ty41 rfl rfl) (v' := ptr S 0) rfl) ?_
  refine Gx.val rfl rfl rfl (val_load rfl Try.ty41 rfl rfl (cell_rec (k := 2) rfl rfl)) ?_
  refine Gx.val rfl rfl rfl (val_move rfl rfl) ?_
  refine Gx.val rfl rfl rfl (val_ixa rfl Try.underlying41 Try.ty44 rfl rfl (j := i.val) (rfl) (reach_own (k := 3) rfl hkb)) ?_
  refine Gx.val rfl rfl rfl (val_load rfl Try.ty44 rfl rfl (cell_own (i := 0) (k := 3) rfl hkb rfl)) ?_
  refine Gx.val rfl rfl rfl (val_assign rfl rfl) ?_
  refine Gx.done ?_
  refine Gx.thenN ?_
  refine Gx.seq ?_
  refine Gx.seq ?_
  refine Gx.region ?_
  refine Gx.val rfl rfl rfl (val_move rfl rfl) ?_
  refine Gx.val rfl rfl rfl (val_eql rfl rfl rfl) ?_
  refine Gx.done ?_
  refine Gx.thenN ?_
  refine Gx.decF rfl (by omega) ?_
  refine Gx.skip ?_
  refine Gx.thenN ?_
  refine Gx.seq ?_
  refine Gx.region ?_
  refine Gx.val rfl rfl rfl (val_move rfl rfl) ?_
  refine Gx.val rfl rfl rfl (val_move rfl rfl) ?_
  refine Gx.val rfl rfl rfl (val_nilCheck rfl rfl) ?_
  refine Gx.val rfl rfl rfl (Val.cast (val_fieldAddr rfl Try.underlying46 rfl Try.ty3 rfl rfl) (v' := ptr m.b 0) rfl) ?_
  refine Gx.val rfl rfl rfl (val_load rfl Try.ty3 rfl rfl (cell_rec (k := 4) rfl rfl)) ?_
  refine Gx.val rfl rfl rfl (val_move rfl rfl) ?_
  refine Gx.val rfl rfl rfl (val_max rfl rfl rfl (r := ((max m.p.n x : Nat) : Int)) (by split <;> omega)) ?_
  refine Gx.val rfl rfl rfl (val_nilCheck rfl rfl) ?_
  refine Gx.val rfl rfl rfl (Val.cast (val_fieldAddr rfl Try.underlying46 rfl Try.ty3 rfl rfl) (v' := ptr m.b 0) rfl) ?_
  refine Gx.eff0 rfl rfl (eff_store rfl Try.ty3 rfl rfl (us := [.int .i64 ((max m.p.n x : Nat) : Int)]) rfl rfl rfl (k := 4) rfl (rfl) (vs' := [.int .i64 ((max m.p.n x : Nat) : Int), .int .i64 ((m.p.how : Nat) : Int), .int .i64 ((m.p.key : Nat) : Int), m.v, .int .i64 ((m.p.yes : Nat) : Int)]) (rfl) (l' := [wayH (L + 1) mb (upW s.q (frm, i) lr), Hp.rec_ b1 [.int .i64 ((frm.val : Nat) : Int), .int .i64 ((i.val : Nat) : Int)], Hp.rec_ S [pv, .map (some mb), iv], Hp.own FP 1 pv (pms.map Pm.b), Hp.rec_ m.b [.int .i64 ((max m.p.n x : Nat) : Int), .int .i64 ((m.p.how : Nat) : Int), .int .i64 ((m.p.key : Nat) : Int), m.v, .int .i64 ((m.p.yes : Nat) : Int)], Hp.own FN 1 m.v m.p.waits, R0, Hp.own FN 1 iv s.ins, R]) rfl) ?_
  rintro _ _ rfl
  refine Gx.done ?_
  refine Gx.thenN ?_
  refine Gx.seq ?_
  refine Gx.region ?_
  refine Gx.val rfl rfl rfl (val_move rfl rfl) ?_
  refine Gx.val rfl rfl rfl (val_nilCheck rfl rfl) ?_
  refine Gx.val rfl rfl rfl (Val.cast (val_fieldAddr rfl Try.underlying46 rfl Try.ty3 rfl rfl) (v' := ptr m.b 2) rfl) ?_
  refine Gx.val rfl rfl rfl (val_load rfl Try.ty3 rfl rfl (cell_rec (k := 4) rfl rfl)) ?_
  refine Gx.val rfl rfl rfl (val_move rfl rfl) ?_
  refine Gx.val rfl rfl rfl (val_call (vs := [.int .i64 ((m.p.key : Nat) : Int), .int .i64 ((x : Nat) : Int)]) rfl Try.fn20 rfl (fun w H => cmp_b ((m.p.key : Nat) : Int) ((x : Nat) : Int))) ?_
  refine Gx.val rfl rfl rfl (val_move rfl rfl) ?_
  refine Gx.val rfl rfl rfl (val_move rfl rfl) ?_
  refine Gx.val rfl rfl rfl (val_call (vs := [.int .i64 ((i.val : Nat) : Int), .int .i64 ((frm.val : Nat) : Int)]) rfl Try.fn20 rfl (fun w H => cmp_b ((i.val : Nat) : Int) ((frm.val : Nat) : Int))) ?_
  refine Gx.eff rfl rfl rfl (eff_buildSlice rfl (qs := [(0, .int .i64 (cmpI ((m.p.key : Nat) : Int) ((x : Nat) : Int))), (1, .int .i64 (cmpI ((i.val : Nat) : Int) ((frm.val : Nat) : Int)))]) rfl rfl (cs := #[.int .i64 (cmpI ((m.p.key : Nat) : Int) ((x : Nat) : Int)), .int .i64 (cmpI ((i.val : Nat) : Int) ((frm.val : Nat) : Int))]) (vs := [.int .i64 (cmpI ((m.p.key : Nat) : Int) ((x : Nat) : Int)), .int .i64 (cmpI ((i.val : Nat) : Int) ((frm.val : Nat) : Int))]) (E := 3) rfl (fun w => by first | (go_simp; done) | (go_simp; rfl))) ?_
  rintro _ _ ⟨b2, rfl, rfl⟩
  refine Gx.val rfl rfl rfl (val_call (vs := [.slice (some ⟨b2, 0, none⟩) 2 2]) rfl Try.fn19 rfl (fun w H => or_b (H.at_ (k := 0) rfl))) ?_
  refine Gx.val rfl rfl rfl (val_lss rfl rfl rfl) ?_
  refine Gx.val rfl rfl rfl (val_assign rfl rfl) ?_
  refine Gx.done ?_
  refine Gx.thenN ?_
  refine Gx.seq ?_
  refine Gx.seq ?_
  have hmn : decide ((if (cmpI ((m.p.key : Nat) : Int) ((x : Nat) : Int)) = 0 then (cmpI ((i.val : Nat) : Int) ((frm.val : Nat) : Int)) else (cmpI ((m.p.key : Nat) : Int) ((x : Nat) : Int))) < 0) = mineB m.p.key i.val x frm.val := decide_eq_decide.2 (by unfold cmpI; (repeat' split) <;> omega)
  refine Gx.slot (t := 10) (v := .bool (mineB m.p.key i.val x frm.val)) (by rw [← hmn]; rfl) ?_
  refine Gx.region ?_
  refine Gx.val rfl rfl rfl (val_move rfl rfl) ?_
  refine Gx.val rfl rfl rfl (val_nilCheck rfl rfl) ?_
  refine Gx.val rfl rfl rfl (Val.cast (val_fieldAddr rfl Try.underlying46 rfl Try.ty3 rfl rfl) (v' := ptr m.b 1) rfl) ?_
  refine Gx.val rfl rfl rfl (val_load rfl Try.ty3 rfl rfl (cell_rec (k := 5) rfl rfl)) ?_
  refine Gx.val rfl rfl rfl (val_eql rfl rfl rfl) ?_
  refine Gx.val rfl rfl rfl (val_move rfl rfl) ?_
  refine Gx.cases (t := 87) rfl (fun h3 => ?_) (fun h3 => ?_)
  · refine Gx.skipg rfl rfl rfl rfl rfl rfl ?_
    refine Gx.skipg rfl rfl rfl rfl rfl rfl ?_
    refine Gx.skipg rfl rfl rfl rfl rfl rfl ?_
    refine Gx.skipg rfl rfl rfl rfl rfl rfl ?_
    refine Gx.skipg rfl rfl rfl rfl rfl rfl ?_
    refine Gx.skipg rfl rfl rfl rfl rfl rfl ?_
    refine Gx.skipu rfl rfl rfl rfl rfl ?_
    refine Gx.skipg rfl rfl rfl rfl rfl rfl ?_
    refine Gx.val rfl rfl rfl (val_pickT rfl rfl rfl) ?_
    refine Gx.done ?_
    refine Gx.thenN ?_
    refine Gx.t rfl ?_
    exfalso; first | omega | (exact hd (.inl (by omega))) | (exact hd (.inr ⟨by omega, by assumption⟩)) | simp_all
  · refine Gx.valg rfl rfl rfl rfl rfl (val_move rfl rfl) ?_
    refine Gx.valg rfl rfl rfl rfl rfl (val_nilCheck rfl rfl) ?_
    refine Gx.valg rfl rfl rfl rfl rfl (Val.cast (val_fieldAddr rfl Try.underlying46 rfl Try.ty3 rfl rfl) (v' := ptr m.b 1) rfl) ?_
    refine Gx.valg rfl rfl rfl rfl rfl (val_load rfl Try.ty3 rfl rfl (cell_rec (k := 5) rfl rfl)) ?_
    refine Gx.valg rfl rfl rfl rfl rfl (val_eql rfl rfl rfl) ?_
    refine Gx.valg rfl rfl rfl rfl rfl (val_move rfl rfl) ?_
    refine Gx.cases (t := 93) rfl (fun h4 => ?_) (fun h4 => ?_)
    · refine Gx.valg rfl rfl rfl rfl rfl (val_move rfl rfl) ?_
      refine Gx.valg rfl rfl rfl rfl rfl (val_pickT rfl rfl rfl) ?_
      refine Gx.val rfl rfl rfl (val_pickF rfl rfl rfl) ?_
      refine Gx.done ?_
      refine Gx.thenN ?_
      refine Gx.bool rfl (fun h5 => ?_) (fun h5 => ?_)
      · exfalso; first | omega | (exact hd (.inl (by omega))) | (exact hd (.inr ⟨by omega, by assumption⟩)) | simp_all
      · refine Gx.region ?_
        refine Gx.val rfl rfl rfl (val_move rfl rfl) ?_
        refine Gx.val rfl rfl rfl (val_move rfl rfl) ?_
        refine Gx.val rfl rfl rfl (val_move rfl rfl) ?_
        refine Gx.eff rfl rfl rfl (eff_call (vs := [ptr S 0, .int .i64 ((i.val : Nat) : Int), .int .i64 ((frm.val : Nat) : Int), .int .i64 0]) rfl Try.fn17 rfl (fun w H => send_nat (i := i.val) (j := frm.val) (x := 0) i.isLt frm.isLt (by omega) (H.at2 (k := 3) (k' := 1) rfl rfl))) ?_
        rintro _ l6 ⟨rfl, hl6⟩
        refine Gx.sepEq (l' := [Hp.rec_ S [pv, .map (some mb), iv], wayH (L + 1 + 1) mb (sendW (upW s.q (frm, i) lr) i.val frm.val 0), Hp.rec_ b2 [.int .i64 (cmpI ((m.p.key : Nat) : Int) ((x : Nat) : Int)), .int .i64 (cmpI ((i.val : Nat) : Int) ((frm.val : Nat) : Int))], Hp.rec_ b1 [.int .i64 ((frm.val : Nat) : Int), .int .i64 ((i.val : Nat) : Int)], Hp.own FP 1 pv (pms.map Pm.b), Hp.rec_ m.b [.int .i64 ((max m.p.n x : Nat) : Int), .int .i64 ((m.p.how : Nat) : Int), .int .i64 ((m.p.key : Nat) : Int), m.v, .int .i64 ((m.p.yes : Nat) : Int)], Hp.own FN 1 m.v m.p.waits, R0, Hp.own FN 1 iv s.ins, R]) hl6 ?_
        refine Gx.done ?_
        refine Gx.thenN ?_
        refine Gx.seq ?_
        refine Gx.region ?_
        refine Gx.val rfl rfl rfl (val_assign rfl rfl) ?_
        refine Gx.done ?_
        refine Gx.thenN ?_
        refine Gx.ret ?_
        refine Gx.drop 3 rfl ?_
        refine Gx.drop 2 rfl ?_
        refine Gx.front 7 rfl ?_
        refine Gx.front 7 rfl ?_
        refine Gx.front 3 rfl ?_
        refine Gx.front 7 rfl ?_
        refine Gx.front 7 rfl ?_
        refine Gx.front 7 rfl ?_
        refine Gx.front 7 rfl ?_
        refine Gx.front 7 rfl ?_
        refine Gx.norm (l' := [Hp.rec_ S [pv, .map (some mb), iv], Hp.own FP 1 pv (pms.map Pm.b), Hp.rec_ m.b [.int .i64 ((max m.p.n x : Nat) : Int), .int .i64 ((m.p.how : Nat) : Int), .int .i64 ((m.p.key : Nat) : Int), m.v, .int .i64 ((m.p.yes : Nat) : Int)], Hp.own FN 1 m.v m.p.waits, R0, wayH (L + 1 + 1) mb (sendW (upW s.q (frm, i) lr) i.val frm.val 0), Hp.own FN 1 iv s.ins, R]) rfl ?_
        refine Gx.sat (l' := [worldH S (L + 1 + 1) ({ s with q := sendW (upW s.q (frm, i) lr) i.val frm.val 0, ps := s.ps.set i.val { m.p with n := max m.p.n x } }), R]) (fun w H => worldH.shutF (s' := { s with q := sendW (upW s.q (frm, i) lr) i.val frm.val 0, ps := s.ps.set i.val { m.p with n := max m.p.n x } }) hk hb (⟨m.b, m.v, ⟨max m.p.n x, m.p.how, m.p.key, m.p.yes, m.p.waits⟩⟩ : Pm) rfl (by rw [hmap] <;> first | rfl | (simp; done) | (exact (List.set_getElem?_self' hp).symm)) H) ?_
        refine Gx.ret1 Try.results15 rfl ?_
        refine ⟨rfl, ?_⟩
        rw [sep1]
        unfold takeM
        rw [smN_self, smN_self, h0]
        dsimp only
        rw [hp]
        dsimp only
        rw [if_neg hx9]
        rw [if_neg hd]
    · refine Gx.skipg rfl rfl rfl rfl rfl rfl ?_
      refine Gx.valg rfl rfl rfl rfl rfl (val_pickF rfl rfl rfl) ?_
      refine Gx.val rfl rfl rfl (val_pickF rfl rfl rfl) ?_
      refine Gx.done ?_
      refine Gx.thenN ?_
      refine Gx.f rfl ?_
      refine Gx.region ?_
      refine Gx.val rfl rfl rfl (val_move rfl rfl) ?_
      refine Gx.val rfl rfl rfl (val_move rfl rfl) ?_
      refine Gx.val rfl rfl rfl (val_move rfl rfl) ?_
      refine Gx.eff rfl rfl rfl (eff_call (vs := [ptr S 0, .int .i64 ((i.val : Nat) : Int), .int .i64 ((frm.val : Nat) : Int), .int .i64 0]) rfl Try.fn17 rfl (fun w H => send_nat (i := i.val) (j := frm.val) (x := 0) i.isLt frm.isLt (by omega) (H.at2 (k := 3) (k' := 1) rfl rfl))) ?_
      rintro _ l7 ⟨rfl, hl7⟩
      refine Gx.sepEq (l' := [Hp.rec_ S [pv, .map (some mb), iv], wayH (L + 1 + 1) mb (sendW (upW s.q (frm, i) lr) i.val frm.val 0), Hp.rec_ b2 [.int .i64 (cmpI ((m.p.key : Nat) : Int) ((x : Nat) : Int)), .int .i64 (cmpI ((i.val : Nat) : Int) ((frm.val : Nat) : Int))], Hp.rec_ b1 [.int .i64 ((frm.val : Nat) : Int), .int .i64 ((i.val : Nat) : Int)], Hp.own FP 1 pv (pms.map Pm.b), Hp.rec_ m.b [.int .i64 ((max m.p.n x : Nat) : Int), .int .i64 ((m.p.how : Nat) : Int), .int .i64 ((m.p.key : Nat) : Int), m.v, .int .i64 ((m.p.yes : Nat) : Int)], Hp.own FN 1 m.v m.p.waits, R0, Hp.own FN 1 iv s.ins, R]) hl7 ?_
      refine Gx.done ?_
      refine Gx.thenN ?_
      refine Gx.seq ?_
      refine Gx.region ?_
      refine Gx.val rfl rfl rfl (val_assign rfl rfl) ?_
      refine Gx.done ?_
      refine Gx.thenN ?_
      refine Gx.ret ?_
      refine Gx.drop 3 rfl ?_
      refine Gx.drop 2 rfl ?_
      refine Gx.front 7 rfl ?_
      refine Gx.front 7 rfl ?_
      refine Gx.front 3 rfl ?_
      refine Gx.front 7 rfl ?_
      refine Gx.front 7 rfl ?_
      refine Gx.front 7 rfl ?_
      refine Gx.front 7 rfl ?_
      refine Gx.front 7 rfl ?_
      refine Gx.norm (l' := [Hp.rec_ S [pv, .map (some mb), iv], Hp.own FP 1 pv (pms.map Pm.b), Hp.rec_ m.b [.int .i64 ((max m.p.n x : Nat) : Int), .int .i64 ((m.p.how : Nat) : Int), .int .i64 ((m.p.key : Nat) : Int), m.v, .int .i64 ((m.p.yes : Nat) : Int)], Hp.own FN 1 m.v m.p.waits, R0, wayH (L + 1 + 1) mb (sendW (upW s.q (frm, i) lr) i.val frm.val 0), Hp.own FN 1 iv s.ins, R]) rfl ?_
      refine Gx.sat (l' := [worldH S (L + 1 + 1) ({ s with q := sendW (upW s.q (frm, i) lr) i.val frm.val 0, ps := s.ps.set i.val { m.p with n := max m.p.n x } }), R]) (fun w H => worldH.shutF (s' := { s with q := sendW (upW s.q (frm, i) lr) i.val frm.val 0, ps := s.ps.set i.val { m.p with n := max m.p.n x } }) hk hb (⟨m.b, m.v, ⟨max m.p.n x, m.p.how, m.p.key, m.p.yes, m.p.waits⟩⟩ : Pm) rfl (by rw [hmap] <;> first | rfl | (simp; done) | (exact (List.set_getElem?_self' hp).symm)) H) ?_
      refine Gx.ret1 Try.results15 rfl ?_
      refine ⟨rfl, ?_⟩
      rw [sep1]
      unfold takeM
      rw [smN_self, smN_self, h0]
      dsimp only
      rw [hp]
      dsimp only
      rw [if_neg hx9]
      rw [if_neg hd]

end Go.Proofs.Ytgfileonpoghmaa
