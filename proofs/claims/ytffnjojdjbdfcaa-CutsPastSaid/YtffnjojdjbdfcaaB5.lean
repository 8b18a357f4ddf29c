/- What an event knows is the least whole cut that holds it. The walk. No condition. -/
import Derived.Test.YtffnjojdjbdfcaaKM1
import Derived.Test.YtffnjojdjbdfcaaA8
import Derived.Test.YtffnjojdjbdfcaaB1
namespace Go.Proofs.Ytffnjojdjbdfcaa
open Go.RowKit
set_option linter.unusedVariables false
set_option linter.unusedSimpArgs false
set_option maxRecDepth 100000

/-- rows of what each event knows -/
def RowsP (n : Nat) (l : List En) (w : World) (ov : Value) (rs : List Rw) : Prop := SlS FW 1 w ov rs ∧ rs.length = l.length ∧ ∀ (i : Nat) (r : Rw), rs[i]? = some r → SlS FN 1 w (.slice r.a r.n r.c) (pastC n l i)
theorem vecs_ok {W : World} {v : Value} {n : Nat} {l : List En} (hE : OkE (n : Int) (l.map En.raw)) (h : SlS FEn 3 W v l) : Calls Try.prog 17 #[.int .i64 ((n : Nat) : Int), v] W fun e w' => ∃ u, e = .returned u ∧ (∃ ov rs, u = .tuple #[ov, .int .i64 0] ∧ RowsP n l w' ov rs) ∧ Below W.heap.size W w' := by
  refine (vectorsF_any n (sls_raw.2 h)).mono ?_
  rintro e w' ⟨⟨ov, c, rfl, hc, hv⟩, hb⟩
  obtain rfl := hc.2 hE
  obtain ⟨ps, hps, hs1, hs2⟩ := hv rfl
  rw [Int.toNat_natCast] at hps
  have hlen : ps.length = l.length := by rw [← List.length_map (f := Vc.xs), hps, vecL_len, List.length_map]
  refine ⟨_, rfl, ⟨ov, ps.map fun p => ⟨p.a, p.xs.length, p.c, []⟩, rfl, ?_, by rw [List.length_map, hlen], fun i r hr => ?_⟩, hb⟩
  · obtain ⟨a, cap, h1, h2, h3, h4⟩ := hs1
    refine ⟨a, cap, by rw [List.length_map]; exact h1, by rw [List.length_map]; exact h2, by rw [List.length_map]; exact h3, fun j x hx => ?_⟩
    rw [List.getElem?_map] at hx
    cases hp : ps[j]? with
    | none => rw [hp] at hx; cases hx
    | some p =>
      rw [hp] at hx
      cases hx
      exact h4 j p hp
  · rw [List.getElem?_map] at hr
    cases hp : ps[i]? with
    | none => rw [hp] at hr; cases hr
    | some p =>
      rw [hp] at hr
      cases hr
      have h1 := hs2 p (List.mem_of_getElem? hp)
      have hi : i < (l.map En.raw).length := by
        have := (List.getElem?_eq_some_iff.1 hp).1
        rw [List.length_map]; omega
      have h2 := past_row (n := n) hi
      rw [← hps, List.getElem?_map, hp] at h2
      simp only [Option.map_some, Option.some.injEq] at h2
      show SlS FN 1 w' (.slice p.a p.xs.length p.c) _
      rw [h2] at h1 ⊢
      exact sls_nat.2 h1
theorem vecs_no {W : World} {v : Value} {n : Int} {l : List Ev} (hE : ¬ OkE n l) (h : SlS FE 3 W v l) : Calls Try.prog 17 #[.int .i64 n, v] W fun e w' => ∃ u, e = .returned u ∧ (∃ (ov : Value) (c : Int), u = .tuple #[ov, .int .i64 c] ∧ c ≠ 0) ∧ Below W.heap.size W w' := by
  refine (vectorsF_any n h).mono ?_
  rintro e w' ⟨⟨ov, c, rfl, hc, hv⟩, hb⟩
  exact ⟨_, rfl, ⟨ov, c, rfl, fun h => hE (hc.1 h)⟩, hb⟩
theorem recs_sz {W w : World} {b : Nat} {xs : List Int} {cs : List Value} {R : Hp} (H : Sat W w (Hp.rec_ b cs * R)) (hc : cs = xs.map (Value.int .i64)) (hl : xs.length ≤ 1000 := by simp) : SlS FZ 1 w (.slice (some ⟨b, 0, none⟩) xs.length xs.length) xs := by
  refine ⟨_, xs.length, rfl, by omega, ⟨(fun h => by cases h), Nat.le_refl _⟩, fun j y hy => ⟨b, 0, rfl, H.rec_.1, fun i u hu => ?_⟩⟩
  match i with
  | 0 =>
    simp at hu; subst hu
    have := H.cell j (u := .int .i64 y) (by rw [hc, List.getElem?_map, hy]; rfl)
    simpa using this
  | i + 1 => simp at hu
theorem past_no {W : World} {n i : Int} {r : List Ev} {hv : Value} (hE : ¬ OkE n r) (hs : SlS FE 3 W hv r) :
    Calls Try.prog 7 #[.int .i64 n, hv, .int .i64 i] W fun e w' => e = .returned (.bool true) ∧ Below W.heap.size W w' := by
  refine calls_pure (Gx.enter (l := []) Try.func7 rfl Try.ntmps7 rfl (Sat.start W) ?_)
  refine Gx.know (m' := [(0, .int .i64 n), (1, hv), (2, .int .i64 i)]) (.cons rfl (.cons rfl (.cons rfl .nil))) ?_
  refine Gx.seq ?_
  refine Gx.region ?_
  refine Gx.val rfl rfl rfl (val_assign rfl rfl) ?_
  refine Gx.done ?_
  refine Gx.thenN ?_
  refine Gx.seq ?_
  refine Gx.region ?_
  refine Gx.val rfl rfl rfl (val_move rfl rfl) ?_
  refine Gx.val rfl rfl rfl (val_move rfl rfl) ?_
  refine Gx.eff rfl rfl rfl (eff_callE (vs := [.int .i64 n, hv]) rfl Try.fn17 rfl (R := fun u => ∃ (ov : Value) (c : Int), u = .tuple #[ov, .int .i64 c] ∧ c ≠ 0) (fun w H => vecs_no hE (hs.below H.below))) ?_
  rintro _ _ ⟨⟨ov, cz, rfl, hcz⟩, rfl⟩
  refine Gx.val rfl rfl rfl (val_move rfl rfl) ?_
  refine Gx.val rfl rfl rfl (val_extract rfl rfl rfl) ?_
  refine Gx.val rfl rfl rfl (val_extract rfl rfl rfl) ?_
  refine Gx.val rfl rfl rfl (val_assign rfl rfl) ?_
  refine Gx.val rfl rfl rfl (val_assign rfl rfl) ?_
  refine Gx.done ?_
  refine Gx.thenN ?_
  refine Gx.seq ?_
  refine Gx.seq ?_
  refine Gx.region ?_
  refine Gx.val rfl rfl rfl (val_move rfl rfl) ?_
  refine Gx.val rfl rfl rfl (val_move rfl rfl) ?_
  refine Gx.val rfl rfl rfl (val_call (vs := [.int .i64 n, hv]) rfl Try.fn8 rfl (fun w H => events_no hE (hs.below H.below))) ?_
  refine Gx.val rfl rfl rfl (Val.cast (val_not rfl rfl) (v' := .bool true) rfl) ?_
  refine Gx.done ?_
  refine Gx.thenN ?_
  refine Gx.t rfl ?_
  refine Gx.seq ?_
  refine Gx.region ?_
  refine Gx.val rfl rfl rfl (val_move rfl rfl) ?_
  refine Gx.val rfl rfl rfl (val_neq rfl rfl rfl) ?_
  refine Gx.val rfl rfl rfl (val_assign rfl rfl) ?_
  refine Gx.done ?_
  refine Gx.thenN ?_
  refine Gx.ret ?_
  refine Gx.thenR ?_
  refine Gx.ret1 Try.results7 rfl ?_
  exact congrArg Value.bool (decide_eq_true (by assumption))

theorem past_not {W : World} {n : Nat} {l : List En} {hv : Value} {i : Int} (hE : OkE (n : Int) (l.map En.raw)) (hok : OkC n l) (hs : SlS FEn 3 W hv l) (hin : insI l.length [i] = false) :
    Calls Try.prog 7 #[.int .i64 ((n : Nat) : Int), hv, .int .i64 i] W fun e w' => e = .returned (.bool true) ∧ Below W.heap.size W w' := by
  have h1n := hok.low
  have h6n := hok.high
  refine calls_pure (Gx.enter (l := []) Try.func7 rfl Try.ntmps7 rfl (Sat.start W) ?_)
  refine Gx.know (m' := [(0, .int .i64 ((n : Nat) : Int)), (1, hv), (2, .int .i64 i)]) (.cons rfl (.cons rfl (.cons rfl .nil))) ?_
  refine Gx.seq ?_
  refine Gx.region ?_
  refine Gx.val rfl rfl rfl (val_assign rfl rfl) ?_
  refine Gx.done ?_
  refine Gx.thenN ?_
  refine Gx.seq ?_
  refine Gx.region ?_
  refine Gx.val rfl rfl rfl (val_move rfl rfl) ?_
  refine Gx.val rfl rfl rfl (val_move rfl rfl) ?_
  refine Gx.callB rfl rfl rfl (vs := [.int .i64 ((n : Nat) : Int), hv]) rfl Try.fn17 rfl (R := fun u w => ∃ ov rs, u = .tuple #[ov, .int .i64 0] ∧ RowsP n l w ov rs) (fun w H => vecs_ok hE (hs.below H.below)) ?_
  rintro _ W1 ⟨ov, rs, rfl, hrs⟩ H2
  have hW3 := H2.below
  have hs4 := hs.below H2.below
  obtain ⟨hbs, hbl, hrow⟩ := hrs
  refine Gx.val rfl rfl rfl (val_move rfl rfl) ?_
  refine Gx.val rfl rfl rfl (val_extract rfl rfl rfl) ?_
  refine Gx.val rfl rfl rfl (val_extract rfl rfl rfl) ?_
  refine Gx.val rfl rfl rfl (val_assign rfl rfl) ?_
  refine Gx.val rfl rfl rfl (val_assign rfl rfl) ?_
  refine Gx.done ?_
  refine Gx.thenN ?_
  refine Gx.seq ?_
  refine Gx.seq ?_
  refine Gx.region ?_
  refine Gx.val rfl rfl rfl (val_move rfl rfl) ?_
  refine Gx.val rfl rfl rfl (val_move rfl rfl) ?_
  refine Gx.val rfl rfl rfl (val_call (vs := [.int .i64 ((n : Nat) : Int), hv]) rfl Try.fn8 rfl (fun w H => events_ok hE (sls_raw.2 (hs4.below H.below)))) ?_
  refine Gx.val rfl rfl rfl (Val.cast (val_not rfl rfl) (v' := .bool false) rfl) ?_
  refine Gx.done ?_
  refine Gx.thenN ?_
  refine Gx.f rfl ?_
  refine Gx.skip ?_
  refine Gx.thenN ?_
  refine Gx.seq ?_
  refine Gx.seq ?_
  refine Gx.region ?_
  refine Gx.val rfl rfl rfl (val_move rfl rfl) ?_
  refine Gx.val rfl rfl rfl (Val.cast (val_neq rfl rfl rfl) (v' := .bool false) rfl) ?_
  refine Gx.val rfl rfl rfl (val_move rfl rfl) ?_
  refine Gx.valg rfl rfl rfl rfl rfl (val_move rfl rfl) ?_
  refine Gx.valg rfl rfl rfl rfl rfl (val_len rfl Try.underlying37 rfl (len_base hbs)) ?_
  refine Gx.valg rfl rfl rfl rfl rfl (val_move rfl rfl) ?_
  refine Gx.valg rfl rfl rfl rfl rfl (val_len rfl Try.underlying22 rfl (len_base hs4)) ?_
  refine Gx.valg rfl rfl rfl rfl rfl (val_neq rfl rfl rfl) ?_
  refine Gx.val rfl rfl rfl (val_pickF rfl rfl rfl) ?_
  refine Gx.done ?_
  refine Gx.thenN ?_
  refine Gx.decF rfl (by omega) ?_
  refine Gx.skip ?_
  refine Gx.thenN ?_
  refine Gx.seq ?_
  refine Gx.seq ?_
  refine Gx.region ?_
  refine Gx.val rfl rfl rfl (val_move rfl rfl) ?_
  refine Gx.val rfl rfl rfl (val_len rfl Try.underlying22 rfl (len_base hs4)) ?_
  refine Gx.val rfl rfl rfl (val_move rfl rfl) ?_
  refine Gx.eff rfl rfl rfl (eff_buildSlice rfl (qs := [(0, .int .i64 i)]) rfl rfl (cs := #[.int .i64 i]) (vs := [.int .i64 i]) (E := 3) rfl (fun w => by first | (go_simp; done) | (go_simp; rfl))) ?_
  rintro _ _ ⟨b5, rfl, rfl⟩
  refine Gx.val rfl rfl rfl (val_call (vs := [.int .i64 ((l.length : Nat) : Int), .slice (some ⟨b5, 0, none⟩) 1 1]) rfl Try.fn18 rfl (fun w H => inside_b ((l.length : Nat) : Int) (recs_sz (xs := [i]) (H.at_ (k := 0) rfl) rfl))) ?_
  refine Gx.val rfl rfl rfl (val_not rfl rfl) ?_
  refine Gx.done ?_
  refine Gx.thenN ?_
  refine Gx.boolT rfl (by rw [hin]; rfl) ?_
  refine Gx.seq ?_
  refine Gx.region ?_
  refine Gx.val rfl rfl rfl (val_assign rfl rfl) ?_
  refine Gx.done ?_
  refine Gx.thenN ?_
  refine Gx.ret ?_
  refine Gx.thenR ?_
  refine Gx.ret1B hW3 Try.results7 rfl ?_
  rfl

theorem past_in_ {W : World} {n : Nat} {l : List En} {hv : Value} {i : Nat} (hE : OkE (n : Int) (l.map En.raw)) (hok : OkC n l) (hs : SlS FEn 3 W hv l) (hi : i < l.length) :
    Calls Try.prog 7 #[.int .i64 ((n : Nat) : Int), hv, .int .i64 ((i : Nat) : Int)] W fun e w' => e = .returned (.bool true) ∧ Below W.heap.size W w' := by
  have h1n := hok.low
  have h6n := hok.high
  have hpl : (pastC n l i).length = n := past_len i
  have hrl : (List.replicate n 0).length = n := by simp
  refine calls_pure (Gx.enter (l := []) Try.func7 rfl Try.ntmps7 rfl (Sat.start W) ?_)
  refine Gx.know (m' := [(0, .int .i64 ((n : Nat) : Int)), (1, hv), (2, .int .i64 ((i : Nat) : Int))]) (.cons rfl (.cons rfl (.cons rfl .nil))) ?_
  refine Gx.seq ?_
  refine Gx.region ?_
  refine Gx.val rfl rfl rfl (val_assign rfl rfl) ?_
  refine Gx.done ?_
  refine Gx.thenN ?_
  refine Gx.seq ?_
  refine Gx.region ?_
  refine Gx.val rfl rfl rfl (val_move rfl rfl) ?_
  refine Gx.val rfl rfl rfl (val_move rfl rfl) ?_
  refine Gx.callB rfl rfl rfl (vs := [.int .i64 ((n : Nat) : Int), hv]) rfl Try.fn17 rfl (R := fun u w => ∃ ov rs, u = .tuple #[ov, .int .i64 0] ∧ RowsP n l w ov rs) (fun w H => vecs_ok hE (hs.below H.below)) ?_
  rintro _ W1 ⟨ov, rs, rfl, hrs⟩ H2
  have hW3 := H2.below
  have hs4 := hs.below H2.below
  obtain ⟨hbs, hbl, hrow⟩ := hrs
  refine Gx.val rfl rfl rfl (val_move rfl rfl) ?_
  refine Gx.val rfl rfl rfl (val_extract rfl rfl rfl) ?_
  refine Gx.val rfl rfl rfl (val_extract rfl rfl rfl) ?_
  refine Gx.val rfl rfl rfl (val_assign rfl rfl) ?_
  refine Gx.val rfl rfl rfl (val_assign rfl rfl) ?_
  refine Gx.done ?_
  refine Gx.thenN ?_
  refine Gx.seq ?_
  refine Gx.seq ?_
  refine Gx.region ?_
  refine Gx.val rfl rfl rfl (val_move rfl rfl) ?_
  refine Gx.val rfl rfl rfl (val_move rfl rfl) ?_
  refine Gx.val rfl rfl rfl (val_call (vs := [.int .i64 ((n : Nat) : Int), hv]) rfl Try.fn8 rfl (fun w H => events_ok hE (sls_raw.2 (hs4.below H.below)))) ?_
  refine Gx.val rfl rfl rfl (Val.cast (val_not rfl rfl) (v' := .bool false) rfl) ?_
  refine Gx.done ?_
  refine Gx.thenN ?_
  refine Gx.f rfl ?_
  refine Gx.skip ?_
  refine Gx.thenN ?_
  refine Gx.seq ?_
  refine Gx.seq ?_
  refine Gx.region ?_
  refine Gx.val rfl rfl rfl (val_move rfl rfl) ?_
  refine Gx.val rfl rfl rfl (Val.cast (val_neq rfl rfl rfl) (v' := .bool false) rfl) ?_
  refine Gx.val rfl rfl rfl (val_move rfl rfl) ?_
  refine Gx.valg rfl rfl rfl rfl rfl (val_move rfl rfl) ?_
  refine Gx.valg rfl rfl rfl rfl rfl (val_len rfl Try.underlying37 rfl (len_base hbs)) ?_
  refine Gx.valg rfl rfl rfl rfl rfl (val_move rfl rfl) ?_
  refine Gx.valg rfl rfl rfl rfl rfl (val_len rfl Try.underlying22 rfl (len_base hs4)) ?_
  refine Gx.valg rfl rfl rfl rfl rfl (val_neq rfl rfl rfl) ?_
  refine Gx.val rfl rfl rfl (val_pickF rfl rfl rfl) ?_
  refine Gx.done ?_
  refine Gx.thenN ?_
  refine Gx.decF rfl (by omega) ?_
  refine Gx.skip ?_
  refine Gx.thenN ?_
  refine Gx.seq ?_
  refine Gx.seq ?_
  refine Gx.region ?_
  refine Gx.val rfl rfl rfl (val_move rfl rfl) ?_
  refine Gx.val rfl rfl rfl (val_len rfl Try.underlying22 rfl (len_base hs4)) ?_
  refine Gx.val rfl rfl rfl (val_move rfl rfl) ?_
  refine Gx.eff rfl rfl rfl (eff_buildSlice rfl (qs := [(0, .int .i64 ((i : Nat) : Int))]) rfl rfl (cs := #[.int .i64 ((i : Nat) : Int)]) (vs := [.int .i64 ((i : Nat) : Int)]) (E := 3) rfl (fun w => by first | (go_simp; done) | (go_simp; rfl))) ?_
  rintro _ _ ⟨b5, rfl, rfl⟩
  refine Gx.val rfl rfl rfl (val_call (vs := [.int .i64 ((l.length : Nat) : Int), .slice (some ⟨b5, 0, none⟩) 1 1]) rfl Try.fn18 rfl (fun w H => inside_b ((l.length : Nat) : Int) (recs_sz (xs := [((i : Nat) : Int)]) (H.at_ (k := 0) rfl) rfl))) ?_
  refine Gx.val rfl rfl rfl (val_not rfl rfl) ?_
  refine Gx.done ?_
  refine Gx.thenN ?_
  refine Gx.boolF rfl (by rw [insI_yes (by simp; omega)]; rfl) ?_
  refine Gx.skip ?_
  refine Gx.thenN ?_
  refine Gx.seq ?_
  refine Gx.region ?_
  refine Gx.val rfl rfl rfl (val_move rfl rfl) ?_
  refine Gx.val rfl rfl rfl (val_move rfl rfl) ?_
  refine Gx.val rfl rfl rfl (val_move rfl rfl) ?_
  refine Gx.val rfl rfl rfl (val_move rfl rfl) ?_
  obtain ⟨x6, hx6⟩ := get_of_lt (xs := rs) (k := i) (by omega)
  refine Gx.val rfl rfl rfl (val_ixa rfl Try.underlying37 Try.ty23 rfl rfl (j := i) (rfl) (reach_base hbs hx6)) ?_
  refine Gx.val rfl rfl rfl (val_load rfl Try.ty23 rfl rfl (cell_base (i := 0) hbs hx6 rfl)) ?_
  have hr7 := hrow i x6 hx6
  refine Gx.eff rfl rfl rfl (eff_callE (vs := [.int .i64 ((n : Nat) : Int), hv, .slice x6.a x6.n x6.c]) rfl Try.fn10 rfl (R := fun v => ∃ t : Bool, v = .tuple #[.bool t, .int .i64 0] ∧ (t = true ↔ Whole l (pastC n l i))) (fun w H => whole_any hE hok (past_cut hE (by rw [List.length_map]; omega)) (hs4.below H.below) (hr7.below H.below))) ?_
  rintro _ _ ⟨⟨b8, rfl, hb8⟩, rfl⟩
  refine Gx.val rfl rfl rfl (val_move rfl rfl) ?_
  refine Gx.val rfl rfl rfl (val_extract rfl rfl rfl) ?_
  refine Gx.val rfl rfl rfl (val_extract rfl rfl rfl) ?_
  refine Gx.val rfl rfl rfl (val_assign rfl rfl) ?_
  refine Gx.val rfl rfl rfl (val_assign rfl rfl) ?_
  refine Gx.done ?_
  refine Gx.thenN ?_
  refine Gx.seq ?_
  refine Gx.region ?_
  refine Gx.val rfl rfl rfl (val_move rfl rfl) ?_
  refine Gx.eff rfl rfl rfl (eff_makeSlice (n := n) (f := FN) rfl Try.underlying23 Try.ty3 rfl rfl (rfl) (rfl) FN_len 0 rfl (by omega) (by omega)) ?_
  rintro v9 _ ⟨hiv9, rfl⟩
  refine Gx.val rfl rfl rfl (val_assign rfl rfl) ?_
  refine Gx.done ?_
  refine Gx.thenN ?_
  refine Gx.seq ?_
  refine Gx.seq ?_
  refine Gx.region ?_
  refine Gx.val rfl rfl rfl (val_move rfl rfl) ?_
  refine Gx.val rfl rfl rfl (val_move rfl rfl) ?_
  refine Gx.val rfl rfl rfl (val_ixa rfl Try.underlying37 Try.ty23 rfl rfl (j := i) (rfl) (reach_base hbs hx6)) ?_
  refine Gx.val rfl rfl rfl (val_load rfl Try.ty23 rfl rfl (cell_base (i := 0) hbs hx6 rfl)) ?_
  refine Gx.val rfl rfl rfl (val_len rfl Try.underlying23 rfl (len_base hr7)) ?_
  refine Gx.val rfl rfl rfl (val_move rfl rfl) ?_
  refine Gx.val rfl rfl rfl (val_neq rfl rfl rfl) ?_
  refine Gx.done ?_
  refine Gx.thenN ?_
  refine Gx.decF rfl (by rw [past_len]; omega) ?_
  refine Gx.skip ?_
  refine Gx.thenN ?_
  refine Gx.seq ?_
  refine Gx.regionO (fun j => false) 18 [0, 1, 2, 3, 4, 5, 6, 7, 8, 9, 10, 11, 12, 13, 14, 15, 16, 17] (fun _ => [Hp.own FN 1 v9 (List.replicate n 0), Hp.rec_ b5 [.int .i64 ((i : Nat) : Int)]]) Try.mixed (by kernel_rfl) rfl ?_
  refine Gw.val rfl rfl rfl rfl rfl (fun us => val_move rfl rfl) ?_
  refine Gw.val rfl rfl rfl rfl rfl (fun us => val_move rfl rfl) ?_
  refine Gw.val rfl rfl rfl rfl rfl (fun us => val_move rfl rfl) ?_
  obtain ⟨x10, hx10⟩ := get_of_lt (xs := l) (k := i) (by omega)
  refine Gw.val rfl rfl rfl rfl rfl (fun us => val_ixa rfl Try.underlying22 Try.ty36 rfl rfl (j := i) (rfl) (reach_base hs4 hx10)) ?_
  refine Gw.val rfl rfl rfl rfl rfl (fun us => Val.cast (val_fieldAddr rfl Try.underlying36 rfl Try.ty3 rfl rfl) (v' := ptr (sB hv) (sO hv + i * 3 + 1)) rfl) ?_
  refine Gw.val rfl rfl rfl rfl rfl (fun us => val_load rfl Try.ty3 rfl rfl (cell_base (i := 1) hs4 hx10 rfl)) ?_
  have hwn : x10.who < n := (hok.all _ _ hx10).2.1
  refine Gw.val rfl rfl rfl rfl rfl (fun us => val_move rfl rfl) ?_
  refine Gw.val rfl rfl rfl rfl rfl (fun us => val_move rfl rfl) ?_
  refine Gw.val rfl rfl rfl rfl rfl (fun us => val_ixa rfl Try.underlying37 Try.ty23 rfl rfl (j := i) (rfl) (reach_base hbs hx6)) ?_
  refine Gw.val rfl rfl rfl rfl rfl (fun us => val_load rfl Try.ty23 rfl rfl (cell_base (i := 0) hbs hx6 rfl)) ?_
  refine Gw.val rfl rfl rfl rfl rfl (fun us => val_move rfl rfl) ?_
  refine Gw.val rfl rfl rfl rfl rfl (fun us => val_move rfl rfl) ?_
  refine Gw.val rfl rfl rfl rfl rfl (fun us => val_ixa rfl Try.underlying22 Try.ty36 rfl rfl (j := i) (rfl) (reach_base hs4 hx10)) ?_
  refine Gw.val rfl rfl rfl rfl rfl (fun us => Val.cast (val_fieldAddr rfl Try.underlying36 rfl Try.ty3 rfl rfl) (v' := ptr (sB hv) (sO hv + i * 3 + 1)) rfl) ?_
  refine Gw.val rfl rfl rfl rfl rfl (fun us => val_load rfl Try.ty3 rfl rfl (cell_base (i := 1) hs4 hx10 rfl)) ?_
  obtain ⟨x11, hx11⟩ := get_of_lt (xs := (pastC n l i)) (k := x10.who) (by omega)
  refine Gw.val rfl rfl rfl rfl rfl (fun us => val_ixa rfl Try.underlying23 Try.ty3 rfl rfl (j := x10.who) (rfl) (reach_base hr7 hx11)) ?_
  refine Gw.val rfl rfl rfl rfl rfl (fun us => val_load rfl Try.ty3 rfl rfl (cell_base (i := 0) hr7 hx11 rfl)) ?_
  obtain ⟨x12, hx12⟩ := get_of_lt (xs := List.replicate n 0) (k := x10.who) (by omega)
  refine Gw.val0 rfl rfl rfl (by kernel_rfl) rfl rfl (val_ixa rfl Try.underlying23 Try.ty3 rfl rfl (j := x10.who) (rfl) (reach_own (k := 0) rfl hx12)) ?_
  refine Gw.done ?_
  refine Gx.norm (l' := [Hp.own FN 1 v9 (List.replicate n 0), Hp.rec_ b5 [.int .i64 ((i : Nat) : Int)]]) rfl ?_
  refine Gx.eff0 rfl rfl (eff_storeElA x11 rfl Try.ty3 rfl rfl rfl FN_one (k := 0) rfl FN_len hx12 (l' := [Hp.own FN 1 v9 ((List.replicate n 0).set x10.who x11), Hp.rec_ b5 [.int .i64 ((i : Nat) : Int)]]) rfl) ?_
  rintro _ _ rfl
  refine Gx.done ?_
  refine Gx.thenN ?_
  refine Gx.seq ?_
  refine Gx.region ?_
  refine Gx.val rfl rfl rfl (val_move rfl rfl) ?_
  refine Gx.val rfl rfl rfl (val_move rfl rfl) ?_
  refine Gx.val rfl rfl rfl (val_move rfl rfl) ?_
  have hpx : x11 = (pastC n l i).getD x10.who 0 := (getD_of hx11).symm
  have hown : (List.replicate n 0).set x10.who x11 = ownC n l i x10.who := by rw [hpx]; rfl
  refine Gx.eff rfl rfl rfl (eff_callN (vs := [.int .i64 ((n : Nat) : Int), hv, v9]) rfl Try.fn12 rfl (fun w H => grow_any hE hok ((by rw [hown]; exact ownC_cut hE hwn (by rw [List.length_map]; omega))) (hs4.below H.below) ((H.at_ (k := 0) rfl).sls (by first | omega | (rw [near_len (by omega)]; omega) | (rw [full_len]; omega) | (rw [List.length_set]; omega) | (simp <;> omega))))) ?_
  rintro _ _ ⟨_, ⟨u13, d14, rfl, rfl, hjd14, hwd14, hiu13⟩, rfl⟩
  refine Gx.norm (l' := [Hp.own FN 1 u13 d14, Hp.own FN 1 v9 ((List.replicate n 0).set x10.who x11), Hp.rec_ b5 [.int .i64 ((i : Nat) : Int)]]) rfl ?_
  have hnd14 : d14.length = n := hjd14.cut.len
  refine Gx.val rfl rfl rfl (val_move rfl rfl) ?_
  refine Gx.val rfl rfl rfl (val_extract rfl rfl rfl) ?_
  refine Gx.val rfl rfl rfl (val_extract rfl rfl rfl) ?_
  refine Gx.val rfl rfl rfl (val_assign rfl rfl) ?_
  refine Gx.val rfl rfl rfl (val_assign rfl rfl) ?_
  refine Gx.done ?_
  refine Gx.thenN ?_
  refine Gx.seq ?_
  refine Gx.region ?_
  refine Gx.val rfl rfl rfl (val_move rfl rfl) ?_
  refine Gx.val rfl rfl rfl (Val.cast (val_eql rfl rfl rfl) (v' := .bool true) rfl) ?_
  refine Gx.val rfl rfl rfl (val_move rfl rfl) ?_
  refine Gx.valg rfl rfl rfl rfl rfl (val_move rfl rfl) ?_
  refine Gx.valg rfl rfl rfl rfl rfl (Val.cast (val_eql rfl rfl rfl) (v' := .bool true) rfl) ?_
  refine Gx.val rfl rfl rfl (val_pickT rfl rfl rfl) ?_
  refine Gx.val rfl rfl rfl (val_move rfl rfl) ?_
  refine Gx.valg rfl rfl rfl rfl rfl (val_move rfl rfl) ?_
  refine Gx.val rfl rfl rfl (val_pickT rfl rfl rfl) ?_
  refine Gx.val rfl rfl rfl (val_move rfl rfl) ?_
  refine Gx.slot (t := 93) (v := .bool true) (look_boolT rfl (hb8.2 (past_whole hE (by rw [List.length_map]; omega)))) ?_
  refine Gx.valg rfl rfl rfl rfl rfl (val_move rfl rfl) ?_
  refine Gx.valg rfl rfl rfl rfl rfl (val_move rfl rfl) ?_
  refine Gx.valg rfl rfl rfl rfl rfl (val_move rfl rfl) ?_
  refine Gx.valg rfl rfl rfl rfl rfl (val_ixa rfl Try.underlying37 Try.ty23 rfl rfl (j := i) (rfl) (reach_base hbs hx6)) ?_
  refine Gx.valg rfl rfl rfl rfl rfl (val_load rfl Try.ty23 rfl rfl (cell_base (i := 0) hbs hx6 rfl)) ?_
  refine Gx.valg rfl rfl rfl rfl rfl (val_call (vs := [u13, .slice x6.a x6.n x6.c]) rfl Try.fn16 rfl (fun w H => ints_any ((H.at_ (k := 0) rfl).sls (by first | omega | (rw [near_len (by omega)]; omega) | (rw [full_len]; omega) | (rw [List.length_set]; omega) | (simp <;> omega))) (hr7.below H.below))) ?_
  refine Gx.val rfl rfl rfl (val_pickT rfl rfl rfl) ?_
  refine Gx.val rfl rfl rfl (val_move rfl rfl) ?_
  refine Gx.slot (t := 101) (v := .bool true) (look_decT rfl (past_same hE hx10 (hown ▸ hjd14) hwd14)) ?_
  refine Gx.valg rfl rfl rfl rfl rfl (val_move rfl rfl) ?_
  refine Gx.valg rfl rfl rfl rfl rfl (val_move rfl rfl) ?_
  refine Gx.valg rfl rfl rfl rfl rfl (val_move rfl rfl) ?_
  refine Gx.valg rfl rfl rfl rfl rfl (val_ixa rfl Try.underlying22 Try.ty36 rfl rfl (j := i) (rfl) (reach_base hs4 hx10)) ?_
  refine Gx.valg rfl rfl rfl rfl rfl (Val.cast (val_fieldAddr rfl Try.underlying36 rfl Try.ty3 rfl rfl) (v' := ptr (sB hv) (sO hv + i * 3 + 1)) rfl) ?_
  refine Gx.valg rfl rfl rfl rfl rfl (val_load rfl Try.ty3 rfl rfl (cell_base (i := 1) hs4 hx10 rfl)) ?_
  refine Gx.valg rfl rfl rfl rfl rfl (val_ixa rfl Try.underlying23 Try.ty3 rfl rfl (j := x10.who) (rfl) (reach_own (k := 1) rfl (List.getElem?_set_self (List.getElem?_eq_some_iff.1 hx12).1))) ?_
  refine Gx.valg rfl rfl rfl rfl rfl (val_load rfl Try.ty3 rfl rfl (cell_own (i := 0) (k := 1) rfl (List.getElem?_set_self (List.getElem?_eq_some_iff.1 hx12).1) rfl)) ?_
  refine Gx.valg rfl rfl rfl rfl rfl (val_geq rfl rfl rfl) ?_
  refine Gx.val rfl rfl rfl (val_pickT rfl rfl rfl) ?_
  refine Gx.val rfl rfl rfl (val_assign rfl rfl) ?_
  refine Gx.done ?_
  refine Gx.thenN ?_
  refine Gx.ret ?_
  refine Gx.ret1B hW3 Try.results7 rfl ?_
  exact congrArg Value.bool (decide_eq_true (by have := past_pos hE hx10; omega))

theorem past_any {W : World} {n i : Int} {r : List Ev} {hv : Value} (hs : SlS FE 3 W hv r) :
    Calls Try.prog 7 #[.int .i64 n, hv, .int .i64 i] W fun e w' => e = .returned (.bool true) ∧ Below W.heap.size W w' := by
  by_cases hE : OkE n r
  · obtain ⟨m, l, rfl, rfl, hE, hok⟩ := ok_of hE
    by_cases hi : 0 ≤ i ∧ i < l.length
    · obtain ⟨j, rfl⟩ := Int.eq_ofNat_of_zero_le hi.1
      exact past_in_ hE hok (sls_raw.1 hs) (by omega)
    · refine past_not hE hok (sls_raw.1 hs) ?_
      cases e : insI l.length [i]
      · rfl
      · have := insI_iff.1 e; simp at this; omega
  · exact past_no hE hs
end Go.Proofs.Ytffnjojdjbdfcaa
