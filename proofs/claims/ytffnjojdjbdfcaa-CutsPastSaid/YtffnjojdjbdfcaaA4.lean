/- The events, by process. The walk. No condition. -/
import Derived.Test.YtffnjojdjbdfcaaA3
import Derived.Test.YtffnjojdjbdfcaaX13
namespace Go.Proofs.Ytffnjojdjbdfcaa
open Go.RowKit
set_option linter.unusedVariables false
set_option linter.unusedSimpArgs false
set_option maxRecDepth 100000

structure CutZ (n : Nat) (l : List En) (c : List Int) : Prop where
  len : c.length = n
  le : ∀ (p : Nat) (k : Int), c[p]? = some k → 0 ≤ k ∧ k ≤ cntL l p l.length
theorem cut_of {n : Nat} {l : List En} {c : List Int} (h : CutZ n l c) : ∃ d : List Nat, c = d.map (Nat.cast : Nat → Int) ∧ Cut n l d := by
  refine ⟨c.map Int.toNat, ?_, ⟨by rw [List.length_map]; exact h.len, fun p k hk => ?_⟩⟩
  · rw [List.map_map]
    conv => lhs; rw [← List.map_id c]
    refine List.map_congr_left fun a ha => ?_
    obtain ⟨i, hi⟩ := List.getElem?_of_mem ha
    have := (h.le i a hi).1
    simp only [Function.comp, id]; omega
  · rw [List.getElem?_map] at hk
    cases e : c[p]? with
    | none => rw [e] at hk; cases hk
    | some z => rw [e] at hk; cases hk; have := h.le p z e; omega
theorem cutZ_of {n : Nat} {l : List En} {d : List Nat} (h : Cut n l d) : CutZ n l (d.map (Nat.cast : Nat → Int)) := by
  refine ⟨by rw [List.length_map]; exact h.len, fun p k hk => ?_⟩
  rw [List.getElem?_map] at hk
  cases e : d[p]? with
  | none => rw [e] at hk; cases hk
  | some z => rw [e] at hk; cases hk; have := h.le p z e; omega
theorem of_cutZ {n : Nat} {l : List En} {d : List Nat} (h : CutZ n l (d.map (Nat.cast : Nat → Int))) : Cut n l d := by
  refine ⟨by have := h.len; rwa [List.length_map] at this, fun p k hk => ?_⟩
  have := (h.le p k (by rw [List.getElem?_map, hk]; rfl)).2; omega
theorem check_ok {W : World} {hv : Value} {n : Int} {r : List Ev} (hok : OkE n r) (hs : SlS FE 3 W hv r) : Calls Try.prog 27 #[.int .i64 n, hv] W fun e w' => e = .returned (.int .i64 0) ∧ Below W.heap.size W w' :=
  (check_any n hs).mono fun e w' ⟨⟨c, he, hc⟩, hb⟩ => ⟨by rw [he, hc.2 hok], hb⟩
theorem check_no {W : World} {hv : Value} {n : Int} {r : List Ev} (hok : ¬ OkE n r) (hs : SlS FE 3 W hv r) : Calls Try.prog 27 #[.int .i64 n, hv] W fun e w' => ∃ v, e = .returned v ∧ (∃ c : Int, v = .int .i64 c ∧ c ≠ 0) ∧ Below W.heap.size W w' :=
  (check_any n hs).mono fun e w' ⟨⟨c, he, hc⟩, hb⟩ => ⟨_, he, ⟨c, rfl, fun e => hok (hc.1 e)⟩, hb⟩
abbrev bigR (rows : List Rw) : Hp := Hp.big (fun r : Rw => Hp.own FN 1 (.slice r.a r.n r.c) r.xs) rows
theorem big_nilR : ∀ (n : Nat) (h : Part), (1 : Hp) h → bigR (List.replicate n (⟨none, 0, 0, []⟩ : Rw)) h
  | 0, h, H => H
  | n + 1, h, H => by
    show (Hp.own FN 1 (.slice none 0 0) [] * bigR (List.replicate n _)) h
    exact ⟨fun _ => none, h, fun k => .inl rfl, by funext k; rfl, .inl ⟨rfl, rfl, rfl⟩, big_nilR n h H⟩
def OpenR (n : Nat) (l : List En) (c : List Int) (hv : Value) (v : Value) (w : World) : Prop := (∃ z : Int, v = .tuple #[.pointer none, .int .i64 z] ∧ z ≠ 0 ∧ ¬ CutZ n l c) ∨ ∃ wb ofv rows, v = .tuple #[ptr wb 0, .int .i64 0] ∧ WOk w n l wb hv ofv rows ∧ CutZ n l c
theorem open_any {W : World} {n : Nat} {l : List En} {c : List Int} {hv cv : Value} (hE : OkE n (l.map En.raw)) (hs : SlS FEn 3 W hv l) (hc : SlS FZ 1 W cv c) :
    Calls Try.prog 21 #[.int .i64 ((n : Nat) : Int), hv, cv] W fun e w' => ∃ v, e = .returned v ∧ OpenR n l c hv v w' ∧ Below W.heap.size W w' := by
  have hok := ok_raw hE
  have m1 := sls_bd hc
  have hfew := hok.few
  have h1n := hok.low
  have h6n := hok.high
  refine calls_some (S := fun v l9 => (∃ z : Int, v = .tuple #[.pointer none, .int .i64 z] ∧ z ≠ 0 ∧ ¬ CutZ n l c) ∨ ∃ wb ofv rows, v = .tuple #[ptr wb 0, .int .i64 0] ∧ l9 = [Hp.rec_ wb [hv, ofv], Hp.own FW 1 ofv rows, bigR rows] ∧ rows.length = n ∧ (∀ (p : Nat) (r : Rw), rows[p]? = some r → r.xs = ofL l p l.length) ∧ CutZ n l c) (Gx.enter (l := []) Try.func21 rfl Try.ntmps21 rfl (Sat.start W) ?_) ?_
  refine Gx.know (m' := [(0, .int .i64 ((n : Nat) : Int)), (1, hv), (2, cv)]) (.cons rfl (.cons rfl (.cons rfl .nil))) ?_
  refine Gx.seq ?_
  refine Gx.region ?_
  refine Gx.val rfl rfl rfl (val_assign rfl rfl) ?_
  refine Gx.val rfl rfl rfl (val_assign rfl rfl) ?_
  refine Gx.done ?_
  refine Gx.thenN ?_
  refine Gx.seq ?_
  refine Gx.seq ?_
  refine Gx.region ?_
  refine Gx.val rfl rfl rfl (val_move rfl rfl) ?_
  refine Gx.val rfl rfl rfl (val_move rfl rfl) ?_
  refine Gx.val rfl rfl rfl (val_call (vs := [.int .i64 ((n : Nat) : Int), hv]) rfl Try.fn27 rfl (fun w H => check_ok hE (sls_raw.2 (hs.below H.below)))) ?_
  refine Gx.val rfl rfl rfl (val_assign rfl rfl) ?_
  refine Gx.done ?_
  refine Gx.thenN ?_
  refine Gx.seq ?_
  refine Gx.region ?_
  refine Gx.val rfl rfl rfl (val_move rfl rfl) ?_
  refine Gx.val rfl rfl rfl (Val.cast (val_neq rfl rfl rfl) (v' := .bool false) rfl) ?_
  refine Gx.done ?_
  refine Gx.thenN ?_
  refine Gx.f rfl ?_
  refine Gx.skip ?_
  refine Gx.thenN ?_
  refine Gx.seq ?_
  refine Gx.region ?_
  refine Gx.val rfl rfl rfl (val_move rfl rfl) ?_
  refine Gx.val rfl rfl rfl (val_move rfl rfl) ?_
  refine Gx.eff rfl rfl rfl (eff_makeSlice (n := n) (f := FW) rfl Try.underlying37 Try.ty23 rfl rfl (rfl) (rfl) FW_len (⟨none, 0, 0, []⟩ : Rw) rfl (by omega) (by omega)) ?_
  rintro v1 _ ⟨hiv1, rfl⟩
  refine Gx.val rfl rfl rfl (val_build rfl (qs := [(0, hv), (1, v1)]) rfl rfl (fun w => by obtain ⟨_, _, _, rfl⟩ := hs.isS; obtain ⟨_, _, _, rfl⟩ := hiv1; go_simp) (v := .agg #[hv, v1])) ?_
  refine Gx.eff rfl rfl rfl (eff_box rfl rfl (vs := [hv, v1]) rfl) ?_
  rintro _ _ ⟨b2, rfl, rfl⟩
  refine Gx.val rfl rfl rfl (val_assign rfl rfl) ?_
  refine Gx.done ?_
  refine Gx.thenN ?_
  refine Gx.seq ?_
  refine Gx.seq ?_
  refine Gx.emp ?_
  refine Gx.part (k := 0) (q := bigR (List.replicate n (⟨none, 0, 0, []⟩ : Rw))) rfl (fun _ h => big_nilR n _ h) ?_
  refine Gx.norm (l' := [bigR (List.replicate n (⟨none, 0, 0, []⟩ : Rw)), Hp.rec_ b2 [hv, v1], Hp.own FW 1 v1 (List.replicate n (⟨none, 0, 0, []⟩ : Rw))]) rfl ?_
  refine Gx.region ?_
  refine Gx.val rfl rfl rfl (val_move rfl rfl) ?_
  refine Gx.val rfl rfl rfl (val_len rfl Try.underlying22 rfl (len_base hs)) ?_
  refine Gx.val rfl rfl rfl (val_move rfl rfl) ?_
  refine Gx.done ?_
  refine Gx.thenN ?_
  refine Gx.block ?_
  refine Gx.front 1 rfl ?_
  refine Gx.front 2 rfl ?_
  refine Gx.front 2 rfl ?_
  refine Gx.loop (ι := Nat × (List Rw)) (fun ξ => (ξ.1 ≤ l.length) ∧ (ξ.2.length = n) ∧ (∀ (p : Nat) (r : Rw), ξ.2[p]? = some r → r.xs = ofL l p ξ.1)) (fun ξ => [(0, .int .i64 ((n : Nat) : Int)), (1, hv), (2, cv), (9, ptr b2 0), (25, hv), (26, .int .i64 ((l.length : Nat) : Int)), (27, .int .i64 ((ξ.1 : Nat) : Int))]) (fun ξ => [bigR ξ.2, Hp.own FW 1 v1 ξ.2, Hp.rec_ b2 [hv, v1]]) (fun ξ => l.length - ξ.1) (0, (List.replicate n (⟨none, 0, 0, []⟩ : Rw))) ⟨by first | omega | (dsimp only; omega), List.length_replicate .., fun p r hr => by rw [List.getElem?_replicate] at hr; split at hr <;> cases hr; rfl⟩ ((.cons rfl (.cons rfl (.cons rfl (.cons rfl (.cons rfl (.cons rfl (.cons rfl .nil)))))))) rfl ?_
  rintro ⟨k, rows⟩ ⟨hk, hrl, hro⟩
  dsimp only at hk hrl hro
  refine Gx.know (m' := [(0, .int .i64 ((n : Nat) : Int)), (1, hv), (2, cv), (9, ptr b2 0), (25, hv), (26, .int .i64 ((l.length : Nat) : Int)), (27, .int .i64 ((k : Nat) : Int))]) (.cons rfl (.cons rfl (.cons rfl (.cons rfl (.cons rfl (.cons rfl (.cons rfl .nil))))))) (Gx.norm (l' := [bigR rows, Hp.own FW 1 v1 rows, Hp.rec_ b2 [hv, v1]]) rfl ?_)
  refine Gx.seq ?_
  refine Gx.region ?_
  refine Gx.val rfl rfl rfl (val_lss rfl rfl rfl) ?_
  refine Gx.done ?_
  refine Gx.thenN ?_
  refine Gx.seq ?_
  refine Gx.dec rfl (fun h3 => ?_) (fun h3 => ?_)
  · refine Gx.skip ?_
    refine Gx.thenN ?_
    refine Gx.seq ?_
    refine Gx.block ?_
    refine Gx.seq ?_
    refine Gx.region ?_
    refine Gx.val rfl rfl rfl (val_move rfl rfl) ?_
    obtain ⟨x4, hx4⟩ := get_of_lt (xs := l) (k := k) (by omega)
    refine Gx.val rfl rfl rfl (val_ixa rfl Try.underlying22 Try.ty36 rfl rfl (j := k) (rfl) (reach_base hs hx4)) ?_
    refine Gx.val rfl rfl rfl (Val.cast (val_loadA rfl Try.ty36 rfl rfl rfl (cells_base hs hx4)) (v' := .agg #[.int .i64 x4.kind, .int .i64 ((x4.who : Nat) : Int), .int .i64 x4.src]) rfl) ?_
    refine Gx.eff rfl rfl rfl (eff_alloc rfl Try.ty36 (vs := [.int .i64 0, .int .i64 0, .int .i64 0]) rfl) ?_
    rintro _ _ ⟨b5, rfl, rfl⟩
    refine Gx.val rfl rfl rfl (val_assign rfl rfl) ?_
    refine Gx.eff0 rfl rfl (eff_store rfl Try.ty36 rfl rfl (us := [.int .i64 x4.kind, .int .i64 ((x4.who : Nat) : Int), .int .i64 x4.src]) rfl rfl rfl (k := 0) rfl (rfl) (vs' := [.int .i64 x4.kind, .int .i64 ((x4.who : Nat) : Int), .int .i64 x4.src]) (rfl) (l' := [Hp.rec_ b5 [.int .i64 x4.kind, .int .i64 ((x4.who : Nat) : Int), .int .i64 x4.src], bigR rows, Hp.own FW 1 v1 rows, Hp.rec_ b2 [hv, v1]]) rfl) ?_
    rintro _ _ rfl
    refine Gx.done ?_
    refine Gx.thenN ?_
    have hxk := hx4
    have hall := hok.all _ _ hxk
    obtain ⟨r, hr⟩ := get_of_lt (xs := rows) (k := x4.who) (by rw [hrl]; exact hall.2.1)
    have hrl2 : r.xs.length ≤ 60 := by rw [hro _ _ hr, of_len (by omega)]; have := cnt_le l x4.who k; omega
    refine Gx.focus (n := 1) (k := x4.who) rfl hr (fun R6 hf7 hg8 => ?_)
    refine Gx.norm (l' := [Hp.rec_ b5 [.int .i64 x4.kind, .int .i64 ((x4.who : Nat) : Int), .int .i64 x4.src], Hp.own FN 1 (.slice r.a r.n r.c) r.xs, Hp.own FW 1 v1 rows, Hp.rec_ b2 [hv, v1], R6]) rfl ?_
    refine Gx.regionO (fun j => j == 15 || j == 16) 18 [0, 1, 2, 3, 4, 5, 6, 7, 8, 9, 10, 11, 12, 13, 14, 15, 16, 17] (fun us => match us with | [] => [Hp.rec_ b5 [.int .i64 x4.kind, .int .i64 ((x4.who : Nat) : Int), .int .i64 x4.src], Hp.own FN 1 (.slice r.a r.n r.c) r.xs, Hp.own FW 1 v1 rows, Hp.rec_ b2 [hv, v1], R6] | [u1] => [Hp.rec_ (sB u1) [.int .i64 ((k : Nat) : Int)], Hp.rec_ b5 [.int .i64 x4.kind, .int .i64 ((x4.who : Nat) : Int), .int .i64 x4.src], Hp.own FN 1 (.slice r.a r.n r.c) r.xs, Hp.own FW 1 v1 rows, Hp.rec_ b2 [hv, v1], R6] | u1 :: u2 :: _ => [Hp.rec_ b5 [.int .i64 x4.kind, .int .i64 ((x4.who : Nat) : Int), .int .i64 x4.src], Hp.own FN 1 u2 (r.xs ++ [k]), Hp.own FW 1 v1 rows, Hp.rec_ b2 [hv, v1], R6]) Try.mixed (by kernel_rfl) rfl ?_
    refine Gw.val rfl rfl rfl rfl rfl (fun us => val_move rfl rfl) ?_
    refine Gw.val rfl rfl rfl rfl rfl (fun us => val_nilCheck rfl rfl) ?_
    refine Gw.val rfl rfl rfl rfl rfl (fun us => Val.cast (val_fieldAddr rfl Try.underlying54 rfl Try.ty37 rfl rfl) (v' := ptr b2 1) rfl) ?_
    refine Gw.val rfl rfl rfl rfl rfl (fun us => match us with | [] => val_load rfl Try.ty37 rfl rfl (cell_rec (k := 3) rfl rfl) | [u1] => val_load rfl Try.ty37 rfl rfl (cell_rec (k := 4) rfl rfl) | u1 :: u2 :: _ => val_load rfl Try.ty37 rfl rfl (cell_rec (k := 3) rfl rfl)) ?_
    refine Gw.val rfl rfl rfl rfl rfl (fun us => Val.cast (val_fieldAddr rfl Try.underlying36 rfl Try.ty3 rfl rfl) (v' := ptr b5 1) rfl) ?_
    refine Gw.val rfl rfl rfl rfl rfl (fun us => match us with | [] => val_load rfl Try.ty3 rfl rfl (cell_rec (k := 0) rfl rfl) | [u1] => val_load rfl Try.ty3 rfl rfl (cell_rec (k := 1) rfl rfl) | u1 :: u2 :: _ => val_load rfl Try.ty3 rfl rfl (cell_rec (k := 0) rfl rfl)) ?_
    refine Gw.val rfl rfl rfl rfl rfl (fun us => val_move rfl rfl) ?_
    refine Gw.val rfl rfl rfl rfl rfl (fun us => val_nilCheck rfl rfl) ?_
    refine Gw.val rfl rfl rfl rfl rfl (fun us => Val.cast (val_fieldAddr rfl Try.underlying54 rfl Try.ty37 rfl rfl) (v' := ptr b2 1) rfl) ?_
    refine Gw.val rfl rfl rfl rfl rfl (fun us => match us with | [] => val_load rfl Try.ty37 rfl rfl (cell_rec (k := 3) rfl rfl) | [u1] => val_load rfl Try.ty37 rfl rfl (cell_rec (k := 4) rfl rfl) | u1 :: u2 :: _ => val_load rfl Try.ty37 rfl rfl (cell_rec (k := 3) rfl rfl)) ?_
    refine Gw.val rfl rfl rfl rfl rfl (fun us => Val.cast (val_fieldAddr rfl Try.underlying36 rfl Try.ty3 rfl rfl) (v' := ptr b5 1) rfl) ?_
    refine Gw.val rfl rfl rfl rfl rfl (fun us => match us with | [] => val_load rfl Try.ty3 rfl rfl (cell_rec (k := 0) rfl rfl) | [u1] => val_load rfl Try.ty3 rfl rfl (cell_rec (k := 1) rfl rfl) | u1 :: u2 :: _ => val_load rfl Try.ty3 rfl rfl (cell_rec (k := 0) rfl rfl)) ?_
    refine Gw.val rfl rfl rfl rfl rfl (fun us => match us with | [] => val_ixa rfl Try.underlying37 Try.ty23 rfl rfl (j := x4.who) (rfl) (reach_own (k := 2) rfl hr) | [u1] => val_ixa rfl Try.underlying37 Try.ty23 rfl rfl (j := x4.who) (rfl) (reach_own (k := 3) rfl hr) | u1 :: u2 :: _ => val_ixa rfl Try.underlying37 Try.ty23 rfl rfl (j := x4.who) (rfl) (reach_own (k := 2) rfl hr)) ?_
    refine Gw.val rfl rfl rfl rfl rfl (fun us => match us with | [] => val_load rfl Try.ty23 rfl rfl (cell_own (i := 0) (k := 2) rfl hr rfl) | [u1] => val_load rfl Try.ty23 rfl rfl (cell_own (i := 0) (k := 3) rfl hr rfl) | u1 :: u2 :: _ => val_load rfl Try.ty23 rfl rfl (cell_own (i := 0) (k := 2) rfl hr rfl)) ?_
    refine Gw.val rfl rfl rfl rfl rfl (fun us => val_move rfl rfl) ?_
    refine Gw.chg rfl rfl rfl rfl rfl (fun v => ∃ b9, v = .slice (some ⟨b9, 0, none⟩) 1 1) (Eff.mono (eff_buildSlice rfl (qs := [(0, .int .i64 ((k : Nat) : Int))]) rfl rfl (cs := #[.int .i64 ((k : Nat) : Int)]) (vs := [.int .i64 ((k : Nat) : Int)]) (E := 3) rfl (fun w => by first | (go_simp; done) | (go_simp; rfl))) (by rintro _ _ ⟨b9, rfl, rfl⟩; exact ⟨⟨b9, rfl⟩, rfl⟩)) ?_
    rintro _ ⟨b9, rfl⟩
    refine Gw.chg rfl rfl rfl rfl rfl IsS (Eff.mono (eff_push (r := k) rfl Try.eN FN_len FN_one rfl rfl (k := 0) rfl rfl (k' := 1) rfl (by omega) (by omega)) (fun _ _ h => ⟨h.1, congrArg sep h.2⟩)) ?_
    intro v10 hiv10
    refine Gw.val0 rfl rfl rfl (by kernel_rfl) rfl rfl (val_ixa rfl Try.underlying37 Try.ty23 rfl rfl (j := x4.who) (rfl) (reach_own (k := 2) rfl hr)) ?_
    refine Gw.done ?_
    refine Gx.norm (l' := [Hp.rec_ b5 [.int .i64 x4.kind, .int .i64 ((x4.who : Nat) : Int), .int .i64 x4.src], Hp.own FN 1 v10 (r.xs ++ [k]), Hp.own FW 1 v1 rows, Hp.rec_ b2 [hv, v1], R6]) rfl ?_
    obtain ⟨a11, n12, c13, rfl⟩ := hiv10
    refine Gx.eff0 rfl rfl (eff_storeElA (⟨a11, n12, c13, r.xs ++ [k]⟩ : Rw) rfl Try.ty23 rfl rfl rfl FW_one (k := 2) rfl FW_len hr (l' := [Hp.rec_ b5 [.int .i64 x4.kind, .int .i64 ((x4.who : Nat) : Int), .int .i64 x4.src], Hp.own FN 1 (.slice a11 n12 c13) (r.xs ++ [k]), Hp.own FW 1 v1 (rows.set x4.who (⟨a11, n12, c13, r.xs ++ [k]⟩ : Rw)), Hp.rec_ b2 [hv, v1], R6]) rfl) ?_
    rintro _ _ rfl
    refine Gx.done ?_
    refine Gx.blkN ?_
    refine Gx.thenN ?_
    refine Gx.merge 1 3 rfl rfl (hg8 (⟨a11, n12, c13, r.xs ++ [k]⟩ : Rw)) (l' := [bigR (rows.set x4.who (⟨a11, n12, c13, r.xs ++ [k]⟩ : Rw)), Hp.rec_ b5 [.int .i64 x4.kind, .int .i64 ((x4.who : Nat) : Int), .int .i64 x4.src], Hp.own FW 1 v1 (rows.set x4.who (⟨a11, n12, c13, r.xs ++ [k]⟩ : Rw)), Hp.rec_ b2 [hv, v1]]) rfl ?_
    refine Gx.region ?_
    refine Gx.val rfl rfl rfl (val_add rfl rfl rfl (r := ((k + 1 : Nat) : Int)) (w64 (by omega) (by omega))) ?_
    refine Gx.val rfl rfl rfl (val_move rfl rfl) ?_
    refine Gx.done ?_
    refine Gx.thenN ?_
    refine Gx.drop 1 rfl ?_
    exact Gx.round (k + 1, (rows.set x4.who (⟨a11, n12, c13, r.xs ++ [k]⟩ : Rw))) ⟨by first | omega | (dsimp only; omega), by rw [List.length_set]; exact hrl, fun p r' hr' => by
          by_cases e9 : x4.who = p
          · subst e9
            rw [List.getElem?_set_self (List.getElem?_eq_some_iff.1 hr).1] at hr'; cases hr'
            dsimp only; rw [of_succ hxk, if_pos rfl, hro _ _ hr]
          · rw [List.getElem?_set_ne e9] at hr'
            rw [of_succ hxk, if_neg e9, List.append_nil]; exact hro _ _ hr'⟩ (by first | omega | (dsimp only; omega)) ((.cons rfl (.cons rfl (.cons rfl (.cons rfl (.cons rfl (.cons rfl (.cons rfl .nil)))))))) rfl
  · refine Gx.exit ?_
    refine Gx.thenE ?_
    refine Gx.thenE ?_
    refine Gx.blkE ?_
    refine Gx.thenN ?_
    refine Gx.seq ?_
    refine Gx.seq ?_
    refine Gx.region ?_
    refine Gx.val rfl rfl rfl (val_move rfl rfl) ?_
    refine Gx.val rfl rfl rfl (val_len rfl Try.underlying23 rfl (len_base hc)) ?_
    refine Gx.val rfl rfl rfl (val_move rfl rfl) ?_
    refine Gx.val rfl rfl rfl (val_neq rfl rfl rfl) ?_
    refine Gx.done ?_
    refine Gx.thenN ?_
    refine Gx.dec rfl (fun h14 => ?_) (fun h14 => ?_)
    · refine Gx.seq ?_
      refine Gx.region ?_
      refine Gx.val rfl rfl rfl (val_assign rfl rfl) ?_
      refine Gx.val rfl rfl rfl (val_assign rfl rfl) ?_
      refine Gx.done ?_
      refine Gx.thenN ?_
      refine Gx.ret ?_
      refine Gx.thenR ?_
      refine Gx.noParts ?_
      refine Gx.ret2 Try.results21 rfl rfl ?_
      exact .inl ⟨_, rfl, by decide, fun h => by have := h.len; omega⟩
    · refine Gx.skip ?_
      refine Gx.thenN ?_
      refine Gx.seq ?_
      refine Gx.seq ?_
      refine Gx.region ?_
      refine Gx.val rfl rfl rfl (val_move rfl rfl) ?_
      refine Gx.val rfl rfl rfl (val_len rfl Try.underlying23 rfl (len_base hc)) ?_
      refine Gx.val rfl rfl rfl (val_move rfl rfl) ?_
      refine Gx.done ?_
      refine Gx.thenN ?_
      refine Gx.block ?_
      obtain rfl : k = l.length := by omega
      refine Gx.loop (ι := Nat) (fun ξ => (ξ ≤ c.length) ∧ (∀ (q : Nat) (z : Int), q < ξ → c[q]? = some z → 0 ≤ z ∧ z ≤ cntL l q l.length)) (fun ξ => [(9, ptr b2 0), (55, cv), (56, .int .i64 ((c.length : Nat) : Int)), (57, .int .i64 ((ξ : Nat) : Int))]) (fun ξ => [bigR rows, Hp.own FW 1 v1 rows, Hp.rec_ b2 [hv, v1]]) (fun ξ => c.length - ξ) 0 ⟨by first | omega | (dsimp only; omega), fun q z h => by omega⟩ ((.cons rfl (.cons rfl (.cons rfl (.cons rfl .nil))))) rfl ?_
      rintro p ⟨hp, hcz⟩
      refine Gx.know (m' := [(9, ptr b2 0), (55, cv), (56, .int .i64 ((c.length : Nat) : Int)), (57, .int .i64 ((p : Nat) : Int))]) (.cons rfl (.cons rfl (.cons rfl (.cons rfl .nil)))) (Gx.norm (l' := [bigR rows, Hp.own FW 1 v1 rows, Hp.rec_ b2 [hv, v1]]) rfl ?_)
      refine Gx.seq ?_
      refine Gx.region ?_
      refine Gx.val rfl rfl rfl (val_lss rfl rfl rfl) ?_
      refine Gx.done ?_
      refine Gx.thenN ?_
      refine Gx.seq ?_
      refine Gx.dec rfl (fun h15 => ?_) (fun h15 => ?_)
      · refine Gx.skip ?_
        refine Gx.thenN ?_
        refine Gx.seq ?_
        refine Gx.block ?_
        refine Gx.seq ?_
        refine Gx.region ?_
        refine Gx.val rfl rfl rfl (val_move rfl rfl) ?_
        obtain ⟨x16, hx16⟩ := get_of_lt (xs := c) (k := p) (by omega)
        refine Gx.val rfl rfl rfl (val_ixa rfl Try.underlying23 Try.ty3 rfl rfl (j := p) (rfl) (reach_base hc hx16)) ?_
        refine Gx.val rfl rfl rfl (val_load rfl Try.ty3 rfl rfl (cell_base (i := 0) hc hx16 rfl)) ?_
        refine Gx.val rfl rfl rfl (val_assign rfl rfl) ?_
        refine Gx.val rfl rfl rfl (val_assign rfl rfl) ?_
        refine Gx.done ?_
        refine Gx.thenN ?_
        refine Gx.seq ?_
        have hclen : c.length = n := by omega
        obtain ⟨r, hr⟩ := get_of_lt (xs := rows) (k := p) (by omega)
        have hrl2 : r.xs.length = cntL l p l.length := by rw [hro _ _ hr, of_len (Nat.le_refl _)]
        refine Gx.focus (n := 0) (k := p) rfl hr (fun R17 hf18 hg19 => ?_)
        refine Gx.norm (l' := [Hp.own FN 1 (.slice r.a r.n r.c) r.xs, Hp.own FW 1 v1 rows, Hp.rec_ b2 [hv, v1], R17]) rfl ?_
        refine Gx.region ?_
        refine Gx.val rfl rfl rfl (val_move rfl rfl) ?_
        refine Gx.val rfl rfl rfl (val_lss rfl rfl rfl) ?_
        refine Gx.val rfl rfl rfl (val_move rfl rfl) ?_
        refine Gx.cases (t := 64) rfl (fun h20 => ?_) (fun h20 => ?_)
        · refine Gx.skipg rfl rfl rfl rfl rfl rfl ?_
          refine Gx.skipg rfl rfl rfl rfl rfl rfl ?_
          refine Gx.skipg rfl rfl rfl rfl rfl rfl ?_
          refine Gx.skipg rfl rfl rfl rfl rfl rfl ?_
          refine Gx.skipg rfl rfl rfl rfl rfl rfl ?_
          refine Gx.skipg rfl rfl rfl rfl rfl rfl ?_
          refine Gx.skipg rfl rfl rfl rfl rfl rfl ?_
          refine Gx.skipg rfl rfl rfl rfl rfl rfl ?_
          refine Gx.skipg rfl rfl rfl rfl rfl rfl ?_
          refine Gx.skipg rfl rfl rfl rfl rfl rfl ?_
          refine Gx.val rfl rfl rfl (val_pickT rfl rfl rfl) ?_
          refine Gx.done ?_
          refine Gx.thenN ?_
          refine Gx.t rfl ?_
          refine Gx.seq ?_
          refine Gx.region ?_
          refine Gx.val rfl rfl rfl (val_assign rfl rfl) ?_
          refine Gx.val rfl rfl rfl (val_assign rfl rfl) ?_
          refine Gx.done ?_
          refine Gx.thenN ?_
          refine Gx.ret ?_
          refine Gx.blkR ?_
          refine Gx.thenR ?_
          refine Gx.thenR ?_
          refine Gx.blkR ?_
          refine Gx.thenR ?_
          refine Gx.noParts ?_
          refine Gx.ret2 Try.results21 rfl rfl ?_
          exact .inl ⟨_, rfl, by decide, fun h => by have := h.len; have := h.le p _ hx16; omega⟩
        · refine Gx.valg rfl rfl rfl rfl rfl (val_move rfl rfl) ?_
          refine Gx.valg rfl rfl rfl rfl rfl (val_move rfl rfl) ?_
          refine Gx.valg rfl rfl rfl rfl rfl (val_nilCheck rfl rfl) ?_
          refine Gx.valg rfl rfl rfl rfl rfl (Val.cast (val_fieldAddr rfl Try.underlying54 rfl Try.ty37 rfl rfl) (v' := ptr b2 1) rfl) ?_
          refine Gx.valg rfl rfl rfl rfl rfl (val_load rfl Try.ty37 rfl rfl (cell_rec (k := 2) rfl rfl)) ?_
          refine Gx.valg rfl rfl rfl rfl rfl (val_move rfl rfl) ?_
          refine Gx.valg rfl rfl rfl rfl rfl (val_ixa rfl Try.underlying37 Try.ty23 rfl rfl (j := p) (rfl) (reach_own (k := 1) rfl hr)) ?_
          refine Gx.valg rfl rfl rfl rfl rfl (val_load rfl Try.ty23 rfl rfl (cell_own (i := 0) (k := 1) rfl hr rfl)) ?_
          refine Gx.valg rfl rfl rfl rfl rfl (val_len rfl Try.underlying23 rfl (len_own (k := 0) rfl)) ?_
          refine Gx.valg rfl rfl rfl rfl rfl (val_gtr rfl rfl rfl) ?_
          refine Gx.val rfl rfl rfl (val_pickF rfl rfl rfl) ?_
          refine Gx.done ?_
          refine Gx.thenN ?_
          refine Gx.dec rfl (fun h21 => ?_) (fun h21 => ?_)
          · refine Gx.seq ?_
            refine Gx.region ?_
            refine Gx.val rfl rfl rfl (val_assign rfl rfl) ?_
            refine Gx.val rfl rfl rfl (val_assign rfl rfl) ?_
            refine Gx.done ?_
            refine Gx.thenN ?_
            refine Gx.ret ?_
            refine Gx.blkR ?_
            refine Gx.thenR ?_
            refine Gx.thenR ?_
            refine Gx.blkR ?_
            refine Gx.thenR ?_
            refine Gx.noParts ?_
            refine Gx.ret2 Try.results21 rfl rfl ?_
            exact .inl ⟨_, rfl, by decide, fun h => by have := h.len; have := h.le p _ hx16; omega⟩
          · refine Gx.skip ?_
            refine Gx.blkN ?_
            refine Gx.thenN ?_
            refine Gx.merge 0 2 rfl rfl (hf18) (l' := [bigR rows, Hp.own FW 1 v1 rows, Hp.rec_ b2 [hv, v1]]) rfl ?_
            refine Gx.region ?_
            refine Gx.val rfl rfl rfl (val_add rfl rfl rfl (r := ((p + 1 : Nat) : Int)) (w64 (by omega) (by omega))) ?_
            refine Gx.val rfl rfl rfl (val_move rfl rfl) ?_
            refine Gx.done ?_
            refine Gx.thenN ?_
            exact Gx.round (p + 1) ⟨by first | omega | (dsimp only; omega), fun q z hq hz => by rcases Nat.lt_or_eq_of_le (Nat.le_of_lt_succ hq) with hq | rfl; (exact hcz q z hq hz); (cases hx16.symm.trans hz; omega)⟩ (by first | omega | (dsimp only; omega)) ((.cons rfl (.cons rfl (.cons rfl (.cons rfl .nil))))) rfl
      · refine Gx.exit ?_
        refine Gx.thenE ?_
        refine Gx.thenE ?_
        refine Gx.blkE ?_
        refine Gx.thenN ?_
        refine Gx.seq ?_
        refine Gx.region ?_
        refine Gx.val rfl rfl rfl (val_move rfl rfl) ?_
        refine Gx.val rfl rfl rfl (val_assign rfl rfl) ?_
        refine Gx.val rfl rfl rfl (val_assign rfl rfl) ?_
        refine Gx.done ?_
        refine Gx.thenN ?_
        refine Gx.ret ?_
        refine Gx.front 0 rfl ?_
        refine Gx.front 1 rfl ?_
        refine Gx.front 2 rfl ?_
        refine Gx.ret2 Try.results21 rfl rfl ?_
        exact .inr ⟨_, _, rows, rfl, rfl, hrl, hro, ⟨by omega, fun q z hz => hcz q z (by have := (List.getElem?_eq_some_iff.1 hz).1; omega) hz⟩⟩
  rintro v l9 w (⟨z, rfl, hz, hn⟩ | ⟨wb, ofv, rows, rfl, rfl, hrl, hro, hcz⟩) H
  · exact .inl ⟨z, rfl, hz, hn⟩
  · refine .inr ⟨wb, ofv, rows, rfl, ?_, hcz⟩
    have hr := (H.at_ (k := 0) rfl).rec_
    refine ⟨hr.1, (hr.2 0 _ rfl).1, (hr.2 1 _ rfl).1, hs.below H.below, (H.at_ (k := 1) rfl).sls (by omega), hrl, fun p r hpr => ?_⟩
    obtain ⟨R', HR⟩ := (H.at_ (k := 2) rfl).bigAt hpr
    have h2 := hro p r hpr
    exact ⟨h2, HR.sls (by rw [h2, of_len (Nat.le_refl _)]; have := cnt_le l p l.length; omega)⟩

theorem open_no {W : World} {n : Int} {r : List Ev} {c : List Int} {hv cv : Value} (hok : ¬ OkE n r) (hs : SlS FE 3 W hv r) (hc : SlS FZ 1 W cv c) :
    Calls Try.prog 21 #[.int .i64 n, hv, cv] W fun e w' => ∃ v, e = .returned v ∧ (∃ z : Int, v = .tuple #[.pointer none, .int .i64 z] ∧ z ≠ 0) ∧ Below W.heap.size W w' := by
  refine calls_rel (R := fun v => ∃ z : Int, v = .tuple #[.pointer none, .int .i64 z] ∧ z ≠ 0) (Gx.enter (l := []) Try.func21 rfl Try.ntmps21 rfl (Sat.start W) ?_)
  refine Gx.know (m' := [(0, .int .i64 n), (1, hv), (2, cv)]) (.cons rfl (.cons rfl (.cons rfl .nil))) ?_
  refine Gx.seq ?_
  refine Gx.region ?_
  refine Gx.val rfl rfl rfl (val_assign rfl rfl) ?_
  refine Gx.val rfl rfl rfl (val_assign rfl rfl) ?_
  refine Gx.done ?_
  refine Gx.thenN ?_
  refine Gx.seq ?_
  refine Gx.seq ?_
  refine Gx.region ?_
  refine Gx.val rfl rfl rfl (val_move rfl rfl) ?_
  refine Gx.val rfl rfl rfl (val_move rfl rfl) ?_
  refine Gx.eff rfl rfl rfl (eff_callE (vs := [.int .i64 n, hv]) rfl Try.fn27 rfl (R := fun v => ∃ c : Int, v = .int .i64 c ∧ c ≠ 0) (fun w H => check_no hok (hs.below H.below))) ?_
  rintro _ _ ⟨⟨c1, rfl, hc1⟩, rfl⟩
  refine Gx.val rfl rfl rfl (val_assign rfl rfl) ?_
  refine Gx.done ?_
  refine Gx.thenN ?_
  refine Gx.seq ?_
  refine Gx.region ?_
  refine Gx.val rfl rfl rfl (val_move rfl rfl) ?_
  refine Gx.val rfl rfl rfl (val_neq rfl rfl rfl) ?_
  refine Gx.done ?_
  refine Gx.thenN ?_
  refine Gx.decT rfl (by assumption) ?_
  refine Gx.seq ?_
  refine Gx.region ?_
  refine Gx.val rfl rfl rfl (val_move rfl rfl) ?_
  refine Gx.val rfl rfl rfl (val_assign rfl rfl) ?_
  refine Gx.val rfl rfl rfl (val_assign rfl rfl) ?_
  refine Gx.done ?_
  refine Gx.thenN ?_
  refine Gx.ret ?_
  refine Gx.thenR ?_
  refine Gx.ret2 Try.results21 rfl rfl ?_
  exact ⟨_, rfl, by assumption⟩

end Go.Proofs.Ytffnjojdjbdfcaa
