/- Something is sent. The walk. No condition. -/
import Derived.Test.YtgfileonpoghmaaD1
import Derived.Test.YtgfileonpoghmaaCMP
namespace Go.Proofs.Ytgfileonpoghmaa
open Go.RowKit
set_option linter.unusedVariables false
set_option linter.unusedSimpArgs false
set_option maxRecDepth 100000

theorem getM_index {α β : Type} [DecidableEq α] : ∀ {ms : List (α × β)} {a : α} {r : β}, getM ms a = some r → ∃ k, ms[k]? = some (a, r) ∧ ∀ y, putM ms a y = ms.set k (a, y)
  | [], a, r, h => by simp [getM] at h
  | (c, y) :: l, a, r, h => by
    by_cases e : c = a
    · subst e
      simp [getM] at h; subst h
      exact ⟨0, rfl, fun z => by simp [putM]⟩
    · simp only [getM, if_neg e] at h
      obtain ⟨k, h1, h2⟩ := getM_index h
      exact ⟨k + 1, h1, fun z => by simp only [putM, if_neg e, h2 z]; rfl⟩
theorem putM_none {α β : Type} [DecidableEq α] : ∀ {ms : List (α × β)} {a : α} (x : β), getM ms a = none → putM ms a x = ms ++ [(a, x)]
  | [], a, x, h => rfl
  | (c, y) :: l, a, x, h => by
    by_cases e : c = a
    · subst e; simp [getM] at h
    · simp only [getM, if_neg e] at h
      simp only [putM, if_neg e, putM_none x h]; rfl
def sumR (ms : Ws) : Nat := (ms.map fun p => p.2.xs.length).sum
theorem sum_setR : ∀ {ms : Ws} {k : Nat} {p y : (Sm × Sm) × Rv}, ms[k]? = some p → sumR (ms.set k y) + p.2.xs.length = sumR ms + y.2.xs.length
  | [], k, p, y, h => by simp at h
  | c :: l, 0, p, y, h => by simp at h; subst h; simp [sumR]; omega
  | c :: l, k + 1, p, y, h => by
    have := sum_setR (ms := l) (k := k) (p := p) (y := y) (by simpa using h)
    simp only [sumR, List.set_cons_succ, List.map_cons, List.sum_cons] at this ⊢; omega
structure WayOk (L : Nat) (ms : Ws) (q : Wy) : Prop where
  eq : ∀ k, qof ms k = q k
  len : ms.length ≤ L
  sum : sumR ms ≤ L
def wayH (L mb : Nat) (q : Wy) : Hp := Hp.ex fun ms : Ws => Hp.pure (WayOk L ms q) * (mapW mb ms * Hp.big rowH ms)
theorem wayH.open_ {W w : World} {L mb : Nat} {q : Wy} {R : Hp} (H : Sat W w (wayH L mb q * R)) : ∃ ms, WayOk L ms q ∧ Sat W w (mapW mb ms * (Hp.big rowH ms * R)) := by
  obtain ⟨ms, H⟩ := H.ex
  obtain ⟨h1, H⟩ := (H.cast (Hp.mul_assoc ..)).pure
  exact ⟨ms, h1, H.cast (Hp.mul_assoc ..)⟩
theorem wayH.shut {W w : World} {L mb : Nat} {q : Wy} {ms : Ws} {R : Hp} (h : WayOk L ms q) (H : Sat W w (mapW mb ms * (Hp.big rowH ms * R))) : Sat W w (wayH L mb q * R) :=
  Sat.exI (p := fun ms : Ws => Hp.pure (WayOk L ms q) * (mapW mb ms * Hp.big rowH ms)) ms ((Sat.pureI h (H.cast (Hp.mul_assoc ..).symm)).cast (Hp.mul_assoc ..).symm)
theorem WayOk.put {L : Nat} {ms : Ws} {q : Wy} (h : WayOk L ms q) (k : Sm × Sm) {r : Rv} (hr : r.xs.length ≤ (q k).length + 1) : WayOk (L + 1) (putM ms k r) (upW q k r.xs) := by
  refine ⟨fun k' => ?_, ?_, ?_⟩
  · rw [qof_put]; unfold upW
    split
    · rfl
    · exact h.eq k'
  · rw [putM_length]; have := h.len; split <;> omega
  · have hs := h.sum
    cases e : getM ms k with
    | none =>
      rw [putM_none r e]
      have h0 : q k = [] := by rw [← h.eq k]; unfold qof; rw [e]; rfl
      rw [h0] at hr
      simp only [sumR, List.map_append, List.sum_append] at hs ⊢
      simp at hr ⊢; omega
    | some x =>
      obtain ⟨j, h1, h2⟩ := getM_index e
      rw [h2]
      have h3 := sum_setR (y := (k, r)) h1
      have h4 : (q k).length = x.xs.length := by rw [← h.eq k]; unfold qof; rw [e]; rfl
      dsimp only at h3; omega
theorem send_yes {W w : World} {S mb L x : Nat} {i j : Sm} {pv iv : Value} {ms : Ws} {q : Wy} {r : Rv} {Q : Hp} (hok : WayOk L ms q) (hL : L ≤ 100000) (hg : getM ms (i, j) = some r) (hx : r.xs.length ≤ L) (H : Sat W w (sep [Hp.rec_ S [pv, .map (some mb), iv], mapW mb ms, Hp.own FN 1 (vW r) r.xs, Q])) :
    Calls Try.prog 17 #[ptr S 0, .int .i64 ((i.val : Nat) : Int), .int .i64 ((j.val : Nat) : Int), .int .i64 ((x : Nat) : Int)] w (Ret W fun v l => ∃ v' : Value, v = .tuple #[] ∧ l = [Hp.rec_ S [pv, .map (some mb), iv], mapW mb (putM ms (i, j) ⟨v', r.xs ++ [x]⟩), Hp.own FN 1 v' (r.xs ++ [x]), Q]) := by
  refine Gx.enter (l := [Hp.rec_ S [pv, .map (some mb), iv], Hp.map Try.prog 48 pairL vW mb ms, Hp.own FN 1 (vW r) r.xs, Q]) Try.func17 rfl Try.ntmps17 rfl (H) ?_
  refine Gx.know (m' := [(0, ptr S 0), (1, .int .i64 ((i.val : Nat) : Int)), (2, .int .i64 ((j.val : Nat) : Int)), (3, .int .i64 ((x : Nat) : Int))]) (.cons rfl (.cons rfl (.cons rfl (.cons rfl .nil)))) ?_
  refine Gx.seq ?_
  refine Gx.region ?_
  refine Gx.val rfl rfl rfl (val_move rfl rfl) ?_
  refine Gx.val rfl rfl rfl (val_move rfl rfl) ?_
  refine Gx.val rfl rfl rfl (val_build rfl (qs := [(0, .int .i64 ((i.val : Nat) : Int)), (1, .int .i64 ((j.val : Nat) : Int))]) rfl rfl (fun w => by go_simp) (v := .agg #[.int .i64 ((i.val : Nat) : Int), .int .i64 ((j.val : Nat) : Int)])) ?_
  refine Gx.eff rfl rfl rfl (eff_alloc rfl Try.ty48 (vs := [.int .i64 0, .int .i64 0]) rfl) ?_
  rintro _ _ ⟨b1, rfl, rfl⟩
  refine Gx.eff0 rfl rfl (eff_store rfl Try.ty48 rfl rfl (us := [.int .i64 ((i.val : Nat) : Int), .int .i64 ((j.val : Nat) : Int)]) rfl rfl rfl (k := 0) rfl (rfl) (vs' := [.int .i64 ((i.val : Nat) : Int), .int .i64 ((j.val : Nat) : Int)]) (rfl) (l' := [Hp.rec_ b1 [.int .i64 ((i.val : Nat) : Int), .int .i64 ((j.val : Nat) : Int)], Hp.rec_ S [pv, .map (some mb), iv], Hp.map Try.prog 48 pairL vW mb ms, Hp.own FN 1 (vW r) r.xs, Q]) rfl) ?_
  rintro _ _ rfl
  refine Gx.done ?_
  refine Gx.thenN ?_
  refine Gx.regionO (fun j => j == 6 || j == 7 || j == 9) 11 [0, 1, 2, 3, 4, 5, 6, 7, 8, 10, 9] (fun us => match us with | [] => [Hp.rec_ b1 [.int .i64 ((i.val : Nat) : Int), .int .i64 ((j.val : Nat) : Int)], Hp.rec_ S [pv, .map (some mb), iv], Hp.map Try.prog 48 pairL vW mb ms, Hp.own FN 1 (vW r) r.xs, Q] | [u1] => [Hp.rec_ (sB u1) [.int .i64 ((x : Nat) : Int)], Hp.rec_ b1 [.int .i64 ((i.val : Nat) : Int), .int .i64 ((j.val : Nat) : Int)], Hp.rec_ S [pv, .map (some mb), iv], Hp.map Try.prog 48 pairL vW mb ms, Hp.own FN 1 (vW r) r.xs, Q] | [u1, u2] => [Hp.rec_ (sB u1) [.int .i64 ((x : Nat) : Int)], Hp.rec_ b1 [.int .i64 ((i.val : Nat) : Int), .int .i64 ((j.val : Nat) : Int)], Hp.rec_ S [pv, .map (some mb), iv], Hp.mapE Try.prog 48 pairL vW pairV mb (putM ms (i, j) r) (i, j) (sN u2), Hp.own FN 1 (vW r) r.xs, Q] | u1 :: u2 :: u3 :: _ => [Hp.rec_ b1 [.int .i64 ((i.val : Nat) : Int), .int .i64 ((j.val : Nat) : Int)], Hp.rec_ S [pv, .map (some mb), iv], Hp.mapE Try.prog 48 pairL vW pairV mb (putM ms (i, j) r) (i, j) (sN u2), Hp.own FN 1 u3 (r.xs ++ [x]), Q]) Try.mixed (by kernel_rfl) rfl ?_
  refine Gw.val rfl rfl rfl rfl rfl (fun us => val_move rfl rfl) ?_
  refine Gw.val rfl rfl rfl rfl rfl (fun us => val_nilCheck rfl rfl) ?_
  refine Gw.val rfl rfl rfl rfl rfl (fun us => Val.cast (val_fieldAddr rfl Try.underlying43 rfl Try.ty40 rfl rfl) (v' := ptr S 1) rfl) ?_
  refine Gw.val rfl rfl rfl rfl rfl (fun us => match us with | [] => val_load rfl Try.ty40 rfl rfl (cell_rec (k := 1) rfl rfl) | [u1] => val_load rfl Try.ty40 rfl rfl (cell_rec (k := 2) rfl rfl) | [u1, u2] => val_load rfl Try.ty40 rfl rfl (cell_rec (k := 2) rfl rfl) | u1 :: u2 :: u3 :: _ => val_load rfl Try.ty40 rfl rfl (cell_rec (k := 1) rfl rfl)) ?_
  refine Gw.val rfl rfl rfl rfl rfl (fun us => match us with | [] => Val.cast (val_loadA rfl Try.ty48 rfl rfl rfl (cells_rec (k := 0) rfl)) (v' := .agg #[.int .i64 ((i.val : Nat) : Int), .int .i64 ((j.val : Nat) : Int)]) rfl | [u1] => Val.cast (val_loadA rfl Try.ty48 rfl rfl rfl (cells_rec (k := 1) rfl)) (v' := .agg #[.int .i64 ((i.val : Nat) : Int), .int .i64 ((j.val : Nat) : Int)]) rfl | [u1, u2] => Val.cast (val_loadA rfl Try.ty48 rfl rfl rfl (cells_rec (k := 1) rfl)) (v' := .agg #[.int .i64 ((i.val : Nat) : Int), .int .i64 ((j.val : Nat) : Int)]) rfl | u1 :: u2 :: u3 :: _ => Val.cast (val_loadA rfl Try.ty48 rfl rfl rfl (cells_rec (k := 0) rfl)) (v' := .agg #[.int .i64 ((i.val : Nat) : Int), .int .i64 ((j.val : Nat) : Int)]) rfl) ?_
  refine Gw.val rfl rfl rfl rfl rfl (fun us => val_move rfl rfl) ?_
  refine Gw.chg rfl rfl rfl rfl rfl (fun v => ∃ b2, v = .slice (some ⟨b2, 0, none⟩) 1 1) (Eff.mono (eff_buildSlice rfl (qs := [(0, .int .i64 ((x : Nat) : Int))]) rfl rfl (cs := #[.int .i64 ((x : Nat) : Int)]) (vs := [.int .i64 ((x : Nat) : Int)]) (E := 3) rfl (fun w => by first | (go_simp; done) | (go_simp; rfl))) (by rintro _ _ ⟨b2, rfl, rfl⟩; exact ⟨⟨b2, rfl⟩, rfl⟩)) ?_
  rintro _ ⟨b2, rfl⟩
  refine Gw.chg rfl rfl rfl rfl rfl (fun v => ∃ s3 : Nat, v = .tuple #[vW r, .int .i64 ((s3 : Nat) : Int)]) (Eff.mono (eff_mapEntry rfl Try.underlying40 Try.ty24 (z0 := zRv) rfl Try.kL pairK rfl rfl (i := (i, j)) (trivial) (k := 3) rfl (by have := hok.len; unfold maxLen; omega) (r := r) (by rw [hg]; rfl)) (by rintro _ _ ⟨s3, rfl, rfl⟩; exact ⟨⟨s3, rfl⟩, rfl⟩)) ?_
  rintro _ ⟨s3, rfl⟩
  refine Gw.val rfl rfl rfl rfl rfl (fun us => val_extract rfl rfl rfl) ?_
  refine Gw.val rfl rfl rfl rfl rfl (fun us => val_extract rfl rfl rfl) ?_
  refine Gw.chg rfl rfl rfl rfl rfl IsS (Eff.mono (eff_push (r := x) rfl Try.eN FN_len FN_one rfl rfl (k := 0) rfl rfl (k' := 3) rfl (by omega) (by omega)) (fun _ _ h => ⟨h.1, congrArg sep h.2⟩)) ?_
  intro v4 hiv4
  refine Gw.done ?_
  refine Gx.norm (l' := [Hp.rec_ b1 [.int .i64 ((i.val : Nat) : Int), .int .i64 ((j.val : Nat) : Int)], Hp.rec_ S [pv, .map (some mb), iv], Hp.mapE Try.prog 48 pairL vW pairV mb (putM ms (i, j) r) (i, j) s3, Hp.own FN 1 v4 (r.xs ++ [x]), Q]) rfl ?_
  refine Gx.eff0 rfl rfl (eff_entryStore rfl Try.underlying40 Try.kL pairK rfl rfl rfl (i := (i, j)) (r := (⟨v4, r.xs ++ [x]⟩ : Rv)) (trivial) (k := 2) rfl (by rw [putM_length]; have := hok.len; unfold maxLen; split <;> omega) (l' := [Hp.rec_ b1 [.int .i64 ((i.val : Nat) : Int), .int .i64 ((j.val : Nat) : Int)], Hp.rec_ S [pv, .map (some mb), iv], Hp.map Try.prog 48 pairL vW mb (putM ms (i, j) (⟨v4, r.xs ++ [x]⟩ : Rv)), Hp.own FN 1 v4 (r.xs ++ [x]), Q]) (by rw [show putM (putM ms (i, j) r) (i, j) (⟨v4, r.xs ++ [x]⟩ : Rv) = putM ms (i, j) (⟨v4, r.xs ++ [x]⟩ : Rv) from putM_twice ..]; rfl)) ?_
  rintro _ _ rfl
  refine Gx.done ?_
  refine Gx.endN ?_
  refine Gx.drop 0 rfl ?_
  refine Gx.ret0 Try.results17 ?_
  exact ⟨v4, rfl, rfl⟩

theorem send_no {W w : World} {S mb L x : Nat} {i j : Sm} {pv iv : Value} {ms : Ws} {q : Wy}  {Q : Hp} (hok : WayOk L ms q) (hL : L ≤ 100000) (hg : getM ms (i, j) = none)  (H : Sat W w (sep [Hp.rec_ S [pv, .map (some mb), iv], mapW mb ms, Hp.own FN 1 (vW zRv) [], Q])) :
    Calls Try.prog 17 #[ptr S 0, .int .i64 ((i.val : Nat) : Int), .int .i64 ((j.val : Nat) : Int), .int .i64 ((x : Nat) : Int)] w (Ret W fun v l => ∃ v' : Value, v = .tuple #[] ∧ l = [Hp.rec_ S [pv, .map (some mb), iv], mapW mb (putM ms (i, j) ⟨v', [] ++ [x]⟩), Hp.own FN 1 v' ([] ++ [x]), Q]) := by
  refine Gx.enter (l := [Hp.rec_ S [pv, .map (some mb), iv], Hp.map Try.prog 48 pairL vW mb ms, Hp.own FN 1 (vW zRv) ([]), Q]) Try.func17 rfl Try.ntmps17 rfl (H) ?_
  refine Gx.know (m' := [(0, ptr S 0), (1, .int .i64 ((i.val : Nat) : Int)), (2, .int .i64 ((j.val : Nat) : Int)), (3, .int .i64 ((x : Nat) : Int))]) (.cons rfl (.cons rfl (.cons rfl (.cons rfl .nil)))) ?_
  refine Gx.seq ?_
  refine Gx.region ?_
  refine Gx.val rfl rfl rfl (val_move rfl rfl) ?_
  refine Gx.val rfl rfl rfl (val_move rfl rfl) ?_
  refine Gx.val rfl rfl rfl (val_build rfl (qs := [(0, .int .i64 ((i.val : Nat) : Int)), (1, .int .i64 ((j.val : Nat) : Int))]) rfl rfl (fun w => by go_simp) (v := .agg #[.int .i64 ((i.val : Nat) : Int), .int .i64 ((j.val : Nat) : Int)])) ?_
  refine Gx.eff rfl rfl rfl (eff_alloc rfl Try.ty48 (vs := [.int .i64 0, .int .i64 0]) rfl) ?_
  rintro _ _ ⟨b1, rfl, rfl⟩
  refine Gx.eff0 rfl rfl (eff_store rfl Try.ty48 rfl rfl (us := [.int .i64 ((i.val : Nat) : Int), .int .i64 ((j.val : Nat) : Int)]) rfl rfl rfl (k := 0) rfl (rfl) (vs' := [.int .i64 ((i.val : Nat) : Int), .int .i64 ((j.val : Nat) : Int)]) (rfl) (l' := [Hp.rec_ b1 [.int .i64 ((i.val : Nat) : Int), .int .i64 ((j.val : Nat) : Int)], Hp.rec_ S [pv, .map (some mb), iv], Hp.map Try.prog 48 pairL vW mb ms, Hp.own FN 1 (vW zRv) ([]), Q]) rfl) ?_
  rintro _ _ rfl
  refine Gx.done ?_
  refine Gx.thenN ?_
  refine Gx.regionO (fun j => j == 6 || j == 7 || j == 9) 11 [0, 1, 2, 3, 4, 5, 6, 7, 8, 10, 9] (fun us => match us with | [] => [Hp.rec_ b1 [.int .i64 ((i.val : Nat) : Int), .int .i64 ((j.val : Nat) : Int)], Hp.rec_ S [pv, .map (some mb), iv], Hp.map Try.prog 48 pairL vW mb ms, Hp.own FN 1 (vW zRv) ([]), Q] | [u1] => [Hp.rec_ (sB u1) [.int .i64 ((x : Nat) : Int)], Hp.rec_ b1 [.int .i64 ((i.val : Nat) : Int), .int .i64 ((j.val : Nat) : Int)], Hp.rec_ S [pv, .map (some mb), iv], Hp.map Try.prog 48 pairL vW mb ms, Hp.own FN 1 (vW zRv) ([]), Q] | [u1, u2] => [Hp.rec_ (sB u1) [.int .i64 ((x : Nat) : Int)], Hp.rec_ b1 [.int .i64 ((i.val : Nat) : Int), .int .i64 ((j.val : Nat) : Int)], Hp.rec_ S [pv, .map (some mb), iv], Hp.mapE Try.prog 48 pairL vW pairV mb (putM ms (i, j) zRv) (i, j) (sN u2), Hp.own FN 1 (vW zRv) ([]), Q] | u1 :: u2 :: u3 :: _ => [Hp.rec_ b1 [.int .i64 ((i.val : Nat) : Int), .int .i64 ((j.val : Nat) : Int)], Hp.rec_ S [pv, .map (some mb), iv], Hp.mapE Try.prog 48 pairL vW pairV mb (putM ms (i, j) zRv) (i, j) (sN u2), Hp.own FN 1 u3 ([] ++ [x]), Q]) Try.mixed (by kernel_rfl) rfl ?_
  refine Gw.val rfl rfl rfl rfl rfl (fun us => val_move rfl rfl) ?_
  refine Gw.val rfl rfl rfl rfl rfl (fun us => val_nilCheck rfl rfl) ?_
  refine Gw.val rfl rfl rfl rfl rfl (fun us => Val.cast (val_fieldAddr rfl Try.underlying43 rfl Try.ty40 rfl rfl) (v' := ptr S 1) rfl) ?_
  refine Gw.val rfl rfl rfl rfl rfl (fun us => match us with | [] => val_load rfl Try.ty40 rfl rfl (cell_rec (k := 1) rfl rfl) | [u1] => val_load rfl Try.ty40 rfl rfl (cell_rec (k := 2) rfl rfl) | [u1, u2] => val_load rfl Try.ty40 rfl rfl (cell_rec (k := 2) rfl rfl) | u1 :: u2 :: u3 :: _ => val_load rfl Try.ty40 rfl rfl (cell_rec (k := 1) rfl rfl)) ?_
  refine Gw.val rfl rfl rfl rfl rfl (fun us => match us with | [] => Val.cast (val_loadA rfl Try.ty48 rfl rfl rfl (cells_rec (k := 0) rfl)) (v' := .agg #[.int .i64 ((i.val : Nat) : Int), .int .i64 ((j.val : Nat) : Int)]) rfl | [u1] => Val.cast (val_loadA rfl Try.ty48 rfl rfl rfl (cells_rec (k := 1) rfl)) (v' := .agg #[.int .i64 ((i.val : Nat) : Int), .int .i64 ((j.val : Nat) : Int)]) rfl | [u1, u2] => Val.cast (val_loadA rfl Try.ty48 rfl rfl rfl (cells_rec (k := 1) rfl)) (v' := .agg #[.int .i64 ((i.val : Nat) : Int), .int .i64 ((j.val : Nat) : Int)]) rfl | u1 :: u2 :: u3 :: _ => Val.cast (val_loadA rfl Try.ty48 rfl rfl rfl (cells_rec (k := 0) rfl)) (v' := .agg #[.int .i64 ((i.val : Nat) : Int), .int .i64 ((j.val : Nat) : Int)]) rfl) ?_
  refine Gw.val rfl rfl rfl rfl rfl (fun us => val_move rfl rfl) ?_
  refine Gw.chg rfl rfl rfl rfl rfl (fun v => ∃ b2, v = .slice (some ⟨b2, 0, none⟩) 1 1) (Eff.mono (eff_buildSlice rfl (qs := [(0, .int .i64 ((x : Nat) : Int))]) rfl rfl (cs := #[.int .i64 ((x : Nat) : Int)]) (vs := [.int .i64 ((x : Nat) : Int)]) (E := 3) rfl (fun w => by first | (go_simp; done) | (go_simp; rfl))) (by rintro _ _ ⟨b2, rfl, rfl⟩; exact ⟨⟨b2, rfl⟩, rfl⟩)) ?_
  rintro _ ⟨b2, rfl⟩
  refine Gw.chg rfl rfl rfl rfl rfl (fun v => ∃ s3 : Nat, v = .tuple #[vW zRv, .int .i64 ((s3 : Nat) : Int)]) (Eff.mono (eff_mapEntry rfl Try.underlying40 Try.ty24 (z0 := zRv) rfl Try.kL pairK rfl rfl (i := (i, j)) (trivial) (k := 3) rfl (by have := hok.len; unfold maxLen; omega) (r := zRv) (by rw [hg]; rfl)) (by rintro _ _ ⟨s3, rfl, rfl⟩; exact ⟨⟨s3, rfl⟩, rfl⟩)) ?_
  rintro _ ⟨s3, rfl⟩
  refine Gw.val rfl rfl rfl rfl rfl (fun us => val_extract rfl rfl rfl) ?_
  refine Gw.val rfl rfl rfl rfl rfl (fun us => val_extract rfl rfl rfl) ?_
  refine Gw.chg rfl rfl rfl rfl rfl IsS (Eff.mono (eff_push (r := x) rfl Try.eN FN_len FN_one rfl rfl (k := 0) rfl rfl (k' := 3) rfl (by simp) (by simp)) (fun _ _ h => ⟨h.1, congrArg sep h.2⟩)) ?_
  intro v4 hiv4
  refine Gw.done ?_
  refine Gx.norm (l' := [Hp.rec_ b1 [.int .i64 ((i.val : Nat) : Int), .int .i64 ((j.val : Nat) : Int)], Hp.rec_ S [pv, .map (some mb), iv], Hp.mapE Try.prog 48 pairL vW pairV mb (putM ms (i, j) zRv) (i, j) s3, Hp.own FN 1 v4 ([] ++ [x]), Q]) rfl ?_
  refine Gx.eff0 rfl rfl (eff_entryStore rfl Try.underlying40 Try.kL pairK rfl rfl rfl (i := (i, j)) (r := (⟨v4, [] ++ [x]⟩ : Rv)) (trivial) (k := 2) rfl (by rw [putM_length]; have := hok.len; unfold maxLen; split <;> omega) (l' := [Hp.rec_ b1 [.int .i64 ((i.val : Nat) : Int), .int .i64 ((j.val : Nat) : Int)], Hp.rec_ S [pv, .map (some mb), iv], Hp.map Try.prog 48 pairL vW mb (putM ms (i, j) (⟨v4, [] ++ [x]⟩ : Rv)), Hp.own FN 1 v4 ([] ++ [x]), Q]) (by rw [show putM (putM ms (i, j) zRv) (i, j) (⟨v4, [] ++ [x]⟩ : Rv) = putM ms (i, j) (⟨v4, [] ++ [x]⟩ : Rv) from putM_twice ..]; rfl)) ?_
  rintro _ _ rfl
  refine Gx.done ?_
  refine Gx.endN ?_
  refine Gx.drop 0 rfl ?_
  refine Gx.ret0 Try.results17 ?_
  exact ⟨v4, rfl, rfl⟩

theorem send_any {W w : World} {S mb L x : Nat} {i j : Sm} {pv iv : Value} {q : Wy} {R : Hp} (hL : L ≤ 100000) (H : Sat W w (Hp.rec_ S [pv, .map (some mb), iv] * (wayH L mb q * R))) :
    Calls Try.prog 17 #[ptr S 0, .int .i64 ((i.val : Nat) : Int), .int .i64 ((j.val : Nat) : Int), .int .i64 ((x : Nat) : Int)] w (Ret W fun v l => v = .tuple #[] ∧ sep l = Hp.rec_ S [pv, .map (some mb), iv] * (wayH (L + 1) mb (upW q (i, j) (q (i, j) ++ [x])) * R)) := by
  obtain ⟨ms, hok, H⟩ := wayH.open_ (H.cast (Hp.mul_left_comm ..))
  have hq := hok.eq (i, j)
  unfold qof at hq
  cases hg : getM ms (i, j) with
  | none =>
    rw [hg] at hq
    have hq : q (i, j) = [] := hq.symm
    refine (send_no (W := W) (S := S) (mb := mb) (x := x) (pv := pv) (iv := iv) hok hL hg (Q := Hp.big rowH ms * R) ?_).mono fun e w' ⟨v, l, he, ⟨v', hv, hl⟩, H'⟩ => ⟨v, [Hp.rec_ S [pv, .map (some mb), iv], wayH (L + 1) mb (upW q (i, j) (q (i, j) ++ [x])), R], he, ⟨hv, sep2 _ _ _⟩, ?_⟩
    · have H1 := H.nil FN 1
      exact H1.cast (by rw [sep3]; ac_rfl)
    · subst hl
      have h9 := hok.put (i, j) (r := ⟨v', [] ++ [x]⟩) (by simp)
      rw [hq]
      refine (wayH.shut (mb := mb) (R := Hp.rec_ S [pv, .map (some mb), iv] * R) h9 (H'.cast ?_)).cast ?_
      · rw [sep3, putM_none _ hg, Hp.big_append]
        show _ = _ * (_ * (Hp.own FN 1 v' ([] ++ [x]) * 1) * _)
        rw [Hp.mul_one]; ac_rfl
      · rw [sep2]; ac_rfl
  | some r =>
    rw [hg] at hq
    have hq : q (i, j) = r.xs := hq.symm
    obtain ⟨k, hk1, hk2⟩ := getM_index hg
    obtain ⟨R0, hb1, hb2⟩ := Hp.big_focus rowH ms k _ hk1
    have hrl : r.xs.length ≤ L := by
      have h3 := sum_setR (y := ((i, j), (⟨.slice none 0 0, []⟩ : Rv))) hk1
      have := hok.sum
      simp only [List.length_nil] at h3; omega
    refine (send_yes (W := W) (S := S) (mb := mb) (x := x) (pv := pv) (iv := iv) hok hL hg hrl (Q := R0 * R) ?_).mono fun e w' ⟨v, l, he, ⟨v', hv, hl⟩, H'⟩ => ⟨v, [Hp.rec_ S [pv, .map (some mb), iv], wayH (L + 1) mb (upW q (i, j) (q (i, j) ++ [x])), R], he, ⟨hv, sep2 _ _ _⟩, ?_⟩
    · rw [hb1, show rowH ((i, j), r) = Hp.own FN 1 (vW r) r.xs from rfl] at H
      exact H.cast (by rw [sep3]; ac_rfl)
    · subst hl
      have h9 := hok.put (i, j) (r := ⟨v', r.xs ++ [x]⟩) (by rw [hq]; simp)
      rw [hq]
      refine (wayH.shut (mb := mb) (R := Hp.rec_ S [pv, .map (some mb), iv] * R) h9 (H'.cast ?_)).cast ?_
      · rw [sep3, hk2, hb2, show rowH ((i, j), (⟨v', r.xs ++ [x]⟩ : Rv)) = Hp.own FN 1 v' (r.xs ++ [x]) from rfl]; ac_rfl
      · rw [sep2]; ac_rfl
end Go.Proofs.Ytgfileonpoghmaa
