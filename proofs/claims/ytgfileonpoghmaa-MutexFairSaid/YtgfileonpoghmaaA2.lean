/- The world; one enters. The walks. No condition. -/
import Derived.Test.YtgfileonpoghmaaA1
import Derived.Test.YtgfileonpoghmaaX12
namespace Go.Proofs.Ytgfileonpoghmaa
open Go.RowKit
set_option linter.unusedVariables false
set_option linter.unusedSimpArgs false
set_option maxRecDepth 100000

abbrev FP (b : Nat) : List Value := [ptr b 0]
theorem FP_len (c : Nat) : (FP c).length = 1 := rfl
theorem FP_one (p : Nat) (u : Value) (h : u ∈ FP p) : u.oneCell' = true := by simp [FP] at h; subst h; rfl
theorem Try.eP : Elem Try.prog 41 44 (.pointer none) 1 8 := ⟨Try.underlying41, by kernel_rfl, rfl, by decide⟩
structure Pm where
  b : Nat
  v : Value
  p : Pq
abbrev procH (m : Pm) : Hp := Hp.rec_ m.b [.int .i64 ((m.p.n : Nat) : Int), .int .i64 ((m.p.how : Nat) : Int), .int .i64 ((m.p.key : Nat) : Int), m.v, .int .i64 ((m.p.yes : Nat) : Int)] * Hp.own FN 1 m.v m.p.waits
def worldH (S L : Nat) (s : MS) : Hp := Hp.ex fun q : Value × Nat × Value × List Pm => Hp.pure (q.2.2.2.map Pm.p = s.ps) *
  (Hp.rec_ S [q.1, .map (some q.2.1), q.2.2.1] * (Hp.own FP 1 q.1 (q.2.2.2.map Pm.b) * (Hp.big procH q.2.2.2 * (wayH L q.2.1 s.q * Hp.own FN 1 q.2.2.1 s.ins))))
theorem sep5 (p q r s t R : Hp) : sep [p, q, r, s, t, R] = p * (q * (r * (s * (t * R)))) := by show p * (q * (r * (s * (t * (R * 1))))) = _; rw [Hp.mul_one]
theorem worldH.open_ {W w : World} {S L : Nat} {s : MS} {R : Hp} (H : Sat W w (worldH S L s * R)) : ∃ (pv : Value) (mb : Nat) (iv : Value) (pms : List Pm), pms.map Pm.p = s.ps ∧ Sat W w (sep [Hp.rec_ S [pv, .map (some mb), iv], Hp.own FP 1 pv (pms.map Pm.b), Hp.big procH pms, wayH L mb s.q, Hp.own FN 1 iv s.ins, R]) := by
  obtain ⟨⟨pv, mb, iv, pms⟩, H⟩ := H.ex
  obtain ⟨h1, H⟩ := (H.cast (Hp.mul_assoc ..)).pure
  exact ⟨pv, mb, iv, pms, h1, H.cast (by rw [sep5]; simp only [Hp.mul_assoc])⟩
theorem worldH.shut {W w : World} {S L mb : Nat} {s : MS} {pv iv : Value} {pms : List Pm} {R : Hp} (h : pms.map Pm.p = s.ps) (H : Sat W w (sep [Hp.rec_ S [pv, .map (some mb), iv], Hp.own FP 1 pv (pms.map Pm.b), Hp.big procH pms, wayH L mb s.q, Hp.own FN 1 iv s.ins, R])) : Sat W w (sep [worldH S L s, R]) := by
  rw [sep1]
  refine Sat.exI (p := fun q : Value × Nat × Value × List Pm => Hp.pure (q.2.2.2.map Pm.p = s.ps) * (Hp.rec_ S [q.1, .map (some q.2.1), q.2.2.1] * (Hp.own FP 1 q.1 (q.2.2.2.map Pm.b) * (Hp.big procH q.2.2.2 * (wayH L q.2.1 s.q * Hp.own FN 1 q.2.2.1 s.ins))))) (pv, mb, iv, pms) ?_
  refine (Sat.pureI h (H.cast ?_)).cast (Hp.mul_assoc ..).symm
  rw [sep5]; simp only [Hp.mul_assoc]
abbrev recP (y : Pm) : Hp := Hp.rec_ y.b [.int .i64 ((y.p.n : Nat) : Int), .int .i64 ((y.p.how : Nat) : Int), .int .i64 ((y.p.key : Nat) : Int), y.v, .int .i64 ((y.p.yes : Nat) : Int)]
theorem sep7 (p q r s t u v R : Hp) : sep [p, q, r, s, t, u, v, R] = p * (q * (r * (s * (t * (u * (v * R)))))) := by show p * (q * (r * (s * (t * (u * (v * (R * 1))))))) = _; rw [Hp.mul_one]
theorem worldH.openF {W w : World} {S L i : Nat} {s : MS} {p : Pq} {R : Hp} (hp : s.ps[i]? = some p) (H : Sat W w (worldH S L s * R)) : ∃ (pv : Value) (mb : Nat) (iv : Value) (pms : List Pm) (m : Pm) (R0 : Hp), pms.map Pm.p = s.ps ∧ pms[i]? = some m ∧ m.p = p ∧ (∀ y, Hp.big procH (pms.set i y) = procH y * R0) ∧
    Sat W w (sep [Hp.rec_ S [pv, .map (some mb), iv], Hp.own FP 1 pv (pms.map Pm.b), recP m, Hp.own FN 1 m.v m.p.waits, R0, wayH L mb s.q, Hp.own FN 1 iv s.ins, R]) := by
  obtain ⟨pv, mb, iv, pms, h1, H⟩ := worldH.open_ H
  have h2 := hp
  rw [← h1, List.getElem?_map] at h2
  cases e : pms[i]? with
  | none => rw [e] at h2; cases h2
  | some m =>
    rw [e] at h2; cases h2
    obtain ⟨R0, hb1, hb2⟩ := Hp.big_focus procH pms i m e
    refine ⟨pv, mb, iv, pms, m, R0, h1, e, rfl, hb2, H.cast ?_⟩
    rw [hb1, sep5, sep7, show procH m = recP m * Hp.own FN 1 m.v m.p.waits from rfl]; simp only [Hp.mul_assoc]
theorem set_bM {pms : List Pm} {i : Nat} {m y : Pm} (hk : pms[i]? = some m) (hy : y.b = m.b) : (pms.set i y).map Pm.b = pms.map Pm.b := by
  refine List.ext_getElem? fun j => ?_
  rw [List.getElem?_map, List.getElem?_map]
  by_cases e : i = j
  · subst e; rw [List.getElem?_set_self (List.getElem?_eq_some_iff.1 hk).1, hk]; simp [hy]
  · rw [List.getElem?_set_ne e]
theorem worldH.shutF {W w : World} {S L i mb : Nat} {s' : MS} {pv iv : Value} {pms : List Pm} {m : Pm} {R R0 : Hp} (hk : pms[i]? = some m) (hb : ∀ y, Hp.big procH (pms.set i y) = procH y * R0) (y : Pm) (hy : y.b = m.b) (hs : s'.ps = (pms.map Pm.p).set i y.p)
    (H : Sat W w (sep [Hp.rec_ S [pv, .map (some mb), iv], Hp.own FP 1 pv (pms.map Pm.b), recP y, Hp.own FN 1 y.v y.p.waits, R0, wayH L mb s'.q, Hp.own FN 1 iv s'.ins, R])) : Sat W w (sep [worldH S L s', R]) := by
  refine worldH.shut (pv := pv) (mb := mb) (iv := iv) (pms := pms.set i y) (by rw [List.map_set, hs]) (H.cast ?_)
  rw [hb, sep5, sep7, set_bM hk hy, show procH y = recP y * Hp.own FN 1 y.v y.p.waits from rfl]; simp only [Hp.mul_assoc]
theorem List.set_getElem?_self' {α : Type} {l : List α} {i : Nat} {a : α} (h : l[i]? = some a) : l.set i a = l := by
  obtain ⟨h1, rfl⟩ := List.getElem?_eq_some_iff.1 h
  exact List.set_getElem_self h1
theorem smN_val {i : Nat} (h : i < 2048) : (smN i).val = i := Nat.mod_eq_of_lt h
theorem send_nat {W w : World} {S mb L x i j : Nat} {pv iv : Value} {q : Wy} {R : Hp} (hi : i < 2048) (hj : j < 2048) (hL : L ≤ 100000) (H : Sat W w (Hp.rec_ S [pv, .map (some mb), iv] * (wayH L mb q * R))) :
    Calls Try.prog 17 #[ptr S 0, .int .i64 ((i : Nat) : Int), .int .i64 ((j : Nat) : Int), .int .i64 ((x : Nat) : Int)] w (Ret W fun v l => v = .tuple #[] ∧ sep l = Hp.rec_ S [pv, .map (some mb), iv] * (wayH (L + 1) mb (sendW q i j x) * R)) := by
  have := send_any (i := smN i) (j := smN j) (x := x) hL H
  rw [smN_val hi, smN_val hj] at this
  exact this
theorem enter_any {W w : World} {S L i : Nat} {s : MS} {p : Pq} {R : Hp} (hp : s.ps[i]? = some p) (hn : s.ps.length ≤ 6) (hi : s.ins.length ≤ 100000) (hy : p.yes ≤ 100000) (H : Sat W w (worldH S L s * R)) :
    Calls Try.prog 18 #[ptr S 0, .int .i64 ((i : Nat) : Int)] w (Ret W fun v l => v = .tuple #[] ∧ sep l = worldH S L (enterM s i) * R) := by
  obtain ⟨pv, mb, iv, pms, m, R0, hmap, hk, hmp, hb, H⟩ := worldH.openF hp H
  have hkb : (pms.map Pm.b)[i]? = some m.b := by rw [List.getElem?_map, hk]; rfl
  have hkl := (List.getElem?_eq_some_iff.1 hk).1
  have hbl : (pms.map Pm.b).length = s.ps.length := by rw [← hmap, List.length_map, List.length_map]
  subst hmp
  refine Gx.enter (l := [Hp.rec_ S [pv, .map (some mb), iv], Hp.own FP 1 pv (pms.map Pm.b), Hp.rec_ m.b [.int .i64 ((m.p.n : Nat) : Int), .int .i64 ((m.p.how : Nat) : Int), .int .i64 ((m.p.key : Nat) : Int), m.v, .int .i64 ((m.p.yes : Nat) : Int)], Hp.own FN 1 m.v m.p.waits, R0, wayH L mb s.q, Hp.own FN 1 iv s.ins, R]) Try.func18 rfl Try.ntmps18 rfl (H) ?_
  refine Gx.know (m' := [(0, ptr S 0), (1, .int .i64 ((i : Nat) : Int))]) (.cons rfl (.cons rfl .nil)) ?_
  refine Gx.seq ?_
  refine Gx.region ?_
  refine Gx.val rfl rfl rfl (val_move rfl rfl) ?_
  refine Gx.val rfl rfl rfl (val_nilCheck rfl rfl) ?_
  refine Gx.val rfl rfl rfl (Val.cast (val_fieldAddr rfl Try.underlying43 rfl Try.ty41 rfl rfl) (v' := ptr S 0) rfl) ?_
  refine Gx.val rfl rfl rfl (val_load rfl Try.ty41 rfl rfl (cell_rec (k := 0) rfl rfl)) ?_
  refine Gx.val rfl rfl rfl (val_move rfl rfl) ?_
  refine Gx.val rfl rfl rfl (val_ixa rfl Try.underlying41 Try.ty44 rfl rfl (j := i) (rfl) (reach_own (k := 1) rfl hkb)) ?_
  refine Gx.val rfl rfl rfl (val_load rfl Try.ty44 rfl rfl (cell_own (i := 0) (k := 1) rfl hkb rfl)) ?_
  refine Gx.val rfl rfl rfl (val_assign rfl rfl) ?_
  refine Gx.done ?_
  refine Gx.thenN ?_
  refine Gx.seq ?_
  refine Gx.regionQ Try.mixed (by kernel_rfl) ?_
  refine Gq.val rfl rfl rfl (val_move rfl rfl) ?_
  refine Gq.val rfl rfl rfl (val_nilCheck rfl rfl) ?_
  refine Gq.val rfl rfl rfl (Val.cast (val_fieldAddr rfl Try.underlying46 rfl Try.ty3 rfl rfl) (v' := ptr m.b 1) rfl) ?_
  refine Gq.val rfl rfl rfl (val_load rfl Try.ty3 rfl rfl (cell_rec (k := 2) rfl rfl)) ?_
  refine Gq.val rfl rfl rfl (val_eql rfl rfl rfl) ?_
  refine Gq.val rfl rfl rfl (val_move rfl rfl) ?_
  refine Gq.cases (t := 17) rfl (fun h1 => ?_) (fun h1 => ?_)
  · refine Gq.valg rfl rfl rfl rfl rfl (val_move rfl rfl) ?_
    refine Gq.valg rfl rfl rfl rfl rfl (val_nilCheck rfl rfl) ?_
    refine Gq.valg rfl rfl rfl rfl rfl (Val.cast (val_fieldAddr rfl Try.underlying46 rfl Try.ty3 rfl rfl) (v' := ptr m.b 4) rfl) ?_
    refine Gq.valg rfl rfl rfl rfl rfl (val_load rfl Try.ty3 rfl rfl (cell_rec (k := 2) rfl rfl)) ?_
    refine Gq.valg rfl rfl rfl rfl rfl (val_move rfl rfl) ?_
    refine Gq.valg rfl rfl rfl rfl rfl (val_nilCheck rfl rfl) ?_
    refine Gq.valg rfl rfl rfl rfl rfl (Val.cast (val_fieldAddr rfl Try.underlying43 rfl Try.ty41 rfl rfl) (v' := ptr S 0) rfl) ?_
    refine Gq.valg rfl rfl rfl rfl rfl (val_load rfl Try.ty41 rfl rfl (cell_rec (k := 0) rfl rfl)) ?_
    refine Gq.valg rfl rfl rfl rfl rfl (val_len rfl Try.underlying41 rfl (len_own (k := 1) rfl)) ?_
    refine Gq.valg rfl rfl rfl rfl rfl (val_sub rfl rfl rfl (r := ((((pms.map Pm.b).length : Nat) : Int) - 1)) (w64 rfl (by omega))) ?_
    refine Gq.valg rfl rfl rfl rfl rfl (val_eql rfl rfl rfl) ?_
    refine Gq.val rfl rfl rfl (val_pickT rfl rfl rfl) ?_
    refine Gq.done ?_
    refine Gx.thenN ?_
    refine Gx.dec rfl (fun h2 => ?_) (fun h2 => ?_)
    · refine Gx.seq ?_
      refine Gx.region ?_
      refine Gx.val rfl rfl rfl (val_move rfl rfl) ?_
      refine Gx.val rfl rfl rfl (val_nilCheck rfl rfl) ?_
      refine Gx.val rfl rfl rfl (Val.cast (val_fieldAddr rfl Try.underlying46 rfl Try.ty3 rfl rfl) (v' := ptr m.b 1) rfl) ?_
      refine Gx.eff0 rfl rfl (eff_store rfl Try.ty3 rfl rfl (us := [.int .i64 2]) rfl rfl rfl (k := 2) rfl (rfl) (vs' := [.int .i64 ((m.p.n : Nat) : Int), .int .i64 2, .int .i64 ((m.p.key : Nat) : Int), m.v, .int .i64 ((m.p.yes : Nat) : Int)]) (rfl) (l' := [Hp.rec_ S [pv, .map (some mb), iv], Hp.own FP 1 pv (pms.map Pm.b), Hp.rec_ m.b [.int .i64 ((m.p.n : Nat) : Int), .int .i64 2, .int .i64 ((m.p.key : Nat) : Int), m.v, .int .i64 ((m.p.yes : Nat) : Int)], Hp.own FN 1 m.v m.p.waits, R0, wayH L mb s.q, Hp.own FN 1 iv s.ins, R]) rfl) ?_
      rintro _ _ rfl
      refine Gx.done ?_
      refine Gx.thenN ?_
      refine Gx.region ?_
      refine Gx.val rfl rfl rfl (val_move rfl rfl) ?_
      refine Gx.val rfl rfl rfl (val_move rfl rfl) ?_
      refine Gx.val rfl rfl rfl (val_nilCheck rfl rfl) ?_
      refine Gx.val rfl rfl rfl (Val.cast (val_fieldAddr rfl Try.underlying43 rfl Try.ty24 rfl rfl) (v' := ptr S 2) rfl) ?_
      refine Gx.val rfl rfl rfl (val_load rfl Try.ty24 rfl rfl (cell_rec (k := 0) rfl rfl)) ?_
      refine Gx.val rfl rfl rfl (val_move rfl rfl) ?_
      refine Gx.eff rfl rfl rfl (eff_buildSlice rfl (qs := [(0, .int .i64 ((i : Nat) : Int))]) rfl rfl (cs := #[.int .i64 ((i : Nat) : Int)]) (vs := [.int .i64 ((i : Nat) : Int)]) (E := 3) rfl (fun w => by first | (go_simp; done) | (go_simp; rfl))) ?_
      rintro _ _ ⟨b3, rfl, rfl⟩
      refine Gx.eff rfl rfl rfl (eff_push (r := i) rfl Try.eN FN_len FN_one rfl rfl (k := 0) rfl rfl (k' := 6) rfl (by omega) (by omega)) ?_
      rintro v4 _ ⟨hiv4, rfl⟩
      refine Gx.norm (l' := [Hp.rec_ S [pv, .map (some mb), iv], Hp.own FP 1 pv (pms.map Pm.b), Hp.rec_ m.b [.int .i64 ((m.p.n : Nat) : Int), .int .i64 2, .int .i64 ((m.p.key : Nat) : Int), m.v, .int .i64 ((m.p.yes : Nat) : Int)], Hp.own FN 1 m.v m.p.waits, R0, wayH L mb s.q, Hp.own FN 1 v4 (s.ins ++ [i]), R]) rfl ?_
      refine Gx.val rfl rfl rfl (val_nilCheck rfl rfl) ?_
      refine Gx.val rfl rfl rfl (Val.cast (val_fieldAddr rfl Try.underlying43 rfl Try.ty24 rfl rfl) (v' := ptr S 2) rfl) ?_
      refine Gx.eff0 rfl rfl (eff_store rfl Try.ty24 rfl rfl (us := [v4]) hiv4.cellsL rfl hiv4.all (k := 0) rfl (rfl) (vs' := [pv, .map (some mb), v4]) (rfl) (l' := [Hp.rec_ S [pv, .map (some mb), v4], Hp.own FP 1 pv (pms.map Pm.b), Hp.rec_ m.b [.int .i64 ((m.p.n : Nat) : Int), .int .i64 2, .int .i64 ((m.p.key : Nat) : Int), m.v, .int .i64 ((m.p.yes : Nat) : Int)], Hp.own FN 1 m.v m.p.waits, R0, wayH L mb s.q, Hp.own FN 1 v4 (s.ins ++ [i]), R]) rfl) ?_
      rintro _ _ rfl
      refine Gx.done ?_
      refine Gx.endN ?_
      refine Gx.front 7 rfl ?_
      refine Gx.front 7 rfl ?_
      refine Gx.front 7 rfl ?_
      refine Gx.front 7 rfl ?_
      refine Gx.front 7 rfl ?_
      refine Gx.front 7 rfl ?_
      refine Gx.front 7 rfl ?_
      refine Gx.front 7 rfl ?_
      refine Gx.norm (l' := [Hp.rec_ S [pv, .map (some mb), v4], Hp.own FP 1 pv (pms.map Pm.b), Hp.rec_ m.b [.int .i64 ((m.p.n : Nat) : Int), .int .i64 2, .int .i64 ((m.p.key : Nat) : Int), m.v, .int .i64 ((m.p.yes : Nat) : Int)], Hp.own FN 1 m.v m.p.waits, R0, wayH L mb s.q, Hp.own FN 1 v4 (s.ins ++ [i]), R]) rfl ?_
      refine Gx.sat (l' := [worldH S L ({ s with ps := s.ps.set i { m.p with how := 2 }, ins := s.ins ++ [i] }), R]) (fun w H => worldH.shutF (s' := { s with ps := s.ps.set i { m.p with how := 2 }, ins := s.ins ++ [i] }) hk hb (⟨m.b, m.v, ⟨m.p.n, 2, m.p.key, m.p.yes, m.p.waits⟩⟩ : Pm) rfl (by rw [hmap] <;> first | rfl | (simp; done) | (exact (List.set_getElem?_self' hp).symm)) H) ?_
      refine Gx.ret0 Try.results18 ?_
      refine ⟨rfl, ?_⟩
      rw [sep1]
      unfold enterM
      rw [hp]
      dsimp only
      rw [if_pos (by constructor <;> omega)]
    · refine Gx.skip ?_
      refine Gx.endN ?_
      refine Gx.front 7 rfl ?_
      refine Gx.front 7 rfl ?_
      refine Gx.front 7 rfl ?_
      refine Gx.front 7 rfl ?_
      refine Gx.front 7 rfl ?_
      refine Gx.front 7 rfl ?_
      refine Gx.front 7 rfl ?_
      refine Gx.front 7 rfl ?_
      refine Gx.norm (l' := [Hp.rec_ S [pv, .map (some mb), iv], Hp.own FP 1 pv (pms.map Pm.b), Hp.rec_ m.b [.int .i64 ((m.p.n : Nat) : Int), .int .i64 ((m.p.how : Nat) : Int), .int .i64 ((m.p.key : Nat) : Int), m.v, .int .i64 ((m.p.yes : Nat) : Int)], Hp.own FN 1 m.v m.p.waits, R0, wayH L mb s.q, Hp.own FN 1 iv s.ins, R]) rfl ?_
      refine Gx.sat (l' := [worldH S L s, R]) (fun w H => worldH.shutF (s' := s) hk hb (⟨m.b, m.v, ⟨m.p.n, m.p.how, m.p.key, m.p.yes, m.p.waits⟩⟩ : Pm) rfl (by rw [hmap] <;> first | rfl | (simp; done) | (exact (List.set_getElem?_self' hp).symm)) H) ?_
      refine Gx.ret0 Try.results18 ?_
      refine ⟨rfl, ?_⟩
      rw [sep1]
      unfold enterM
      rw [hp]
      dsimp only
      rw [if_neg (by omega)]
  · refine Gq.skipg rfl rfl rfl rfl rfl rfl ?_
    refine Gq.skipg rfl rfl rfl rfl rfl rfl ?_
    refine Gq.skipg rfl rfl rfl rfl rfl rfl ?_
    refine Gq.skipg rfl rfl rfl rfl rfl rfl ?_
    refine Gq.skipg rfl rfl rfl rfl rfl rfl ?_
    refine Gq.skipg rfl rfl rfl rfl rfl rfl ?_
    refine Gq.skipg rfl rfl rfl rfl rfl rfl ?_
    refine Gq.skipg rfl rfl rfl rfl rfl rfl ?_
    refine Gq.skipg rfl rfl rfl rfl rfl rfl ?_
    refine Gq.skipg rfl rfl rfl rfl rfl rfl ?_
    refine Gq.skipg rfl rfl rfl rfl rfl rfl ?_
    refine Gq.val rfl rfl rfl (val_pickF rfl rfl rfl) ?_
    refine Gq.done ?_
    refine Gx.thenN ?_
    refine Gx.f rfl ?_
    refine Gx.skip ?_
    refine Gx.endN ?_
    refine Gx.front 7 rfl ?_
    refine Gx.front 7 rfl ?_
    refine Gx.front 7 rfl ?_
    refine Gx.front 7 rfl ?_
    refine Gx.front 7 rfl ?_
    refine Gx.front 7 rfl ?_
    refine Gx.front 7 rfl ?_
    refine Gx.front 7 rfl ?_
    refine Gx.norm (l' := [Hp.rec_ S [pv, .map (some mb), iv], Hp.own FP 1 pv (pms.map Pm.b), Hp.rec_ m.b [.int .i64 ((m.p.n : Nat) : Int), .int .i64 ((m.p.how : Nat) : Int), .int .i64 ((m.p.key : Nat) : Int), m.v, .int .i64 ((m.p.yes : Nat) : Int)], Hp.own FN 1 m.v m.p.waits, R0, wayH L mb s.q, Hp.own FN 1 iv s.ins, R]) rfl ?_
    refine Gx.sat (l' := [worldH S L s, R]) (fun w H => worldH.shutF (s' := s) hk hb (⟨m.b, m.v, ⟨m.p.n, m.p.how, m.p.key, m.p.yes, m.p.waits⟩⟩ : Pm) rfl (by rw [hmap] <;> first | rfl | (simp; done) | (exact (List.set_getElem?_self' hp).symm)) H) ?_
    refine Gx.ret0 Try.results18 ?_
    refine ⟨rfl, ?_⟩
    rw [sep1]
    unfold enterM
    rw [hp]
    dsimp only
    rw [if_neg (by omega)]

end Go.Proofs.Ytgfileonpoghmaa
